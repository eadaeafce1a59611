/- Part 18 of the proof of a card of AvssOne, AvssAll. -/
import Derived.Test.YtkdfjkdphdfclaaGreatDoorW17
set_option maxRecDepth 100000
set_option maxHeartbeats 16000000
set_option linter.unusedVariables false
set_option linter.unusedSimpArgs false
namespace Go.Proofs.YtkdfjkdphdfclaaGreatDoor
open Tryz
section
open Go Go.RowKit Go.Shelf Go.Maps
attribute [local go_sem] Oper.semAt_some
end
section
open Go Go.RowKit Go.Shelf Go.Maps
attribute [local go_sem] Oper.semAt_some
end
section
open Go Go.RowKit Go.Shelf Go.Maps
theorem Gt{α:Type}{P:α→Prop}{l:List α}{i:Nat}(hi:i< l.length)(h: ∀x∈l.take i,P x)(h1:P l[i]): ∀x∈l.take (i+1),P x:=fun x hx=>by
 rw [tSg hi] at hx;rcases List.mem_append.1 hx with hx|hx
 ·exact h x hx
 ·rw [List.mem_singleton.1 hx];exact h1
end
section
open Go
def anE(two:Bool)(d m seed:Int):zv:=⟨p19 two,d,m,Kn (p19 two) [0] seed⟩
theorem Hj{two:Bool}{d m seed:Int}(hd:1≤d∧d≤(p19 two).N)(hm:1≤m∧m≤(p19 two).N):(anE two d m seed).ok:=
 ⟨ZY two,Xs two,hd,hm,Nd (Xs two) (ZY two).Q [0] seed,by
  show (Kn (p19 two) [0] seed).length≤100000;rw [Mq]
  have:=(xY (Xs two)).2.2.2.1
  omega⟩
theorem CG(two:Bool)(d m seed:Int):Sm (anE two d m seed).p:=by cases two<;>exact ⟨rfl,rfl,rfl,rfl⟩
end
section
open Go Go.RowKit Go.Shelf Go.Maps
def Hx:Enc Nat where
 size:=1
 pos:=by decide
 rep:=fun _ _ cs g=>cs= [.pointer (some ⟨g,0,none⟩)]
 len:=fun h=>by rw [h];rfl
 ones:=fun h u hu=>by rw [h] at hu;simp at hu;subst hu;rfl
 keep:=fun h _ _=>h
 more:=fun h _=>h
 keepc:=fun h _ _=>h
theorem Sl.atA{X:Nat→Prop}{w:World}{v:Value}{xs:List Nat}(h:Sl Hx X w v xs){k:Nat}(hk:k< xs.length):
  ∃g o c,v= .slice (some ⟨g,o,none⟩) xs.length c∧g< w.heap.size∧X g∧w.cell? ⟨g,o+k,none⟩=some (.pointer (some ⟨xs[k],0,none⟩)):=by
 obtain ⟨g,o,c,cs,e,hg,hX,rfl,hc⟩:=h.at hk;have h0:=hc 0 _ rfl;rw [show Hx.size=1 from rfl,Nat.mul_one] at h0;exact ⟨g,o,c,e,hg,hX,h0⟩
theorem Fd:(Tryz.prog.info? 53).map (fun i=>(i.zero,i.size,i.bytes))=some (some (.pointer none),1,8):=by kernel_rfl
theorem Ee:zQ prog 40 53 1 8:=zQ.mk' (by decide) Tryz.underlying40 Fd rfl
theorem Ic:(Tryz.prog.info? 63).map (fun i=>(i.zero,i.size,i.bytes))=some (some (.slice none 0 0),1,24):=by kernel_rfl
theorem Dk:zQ prog 100 63 1 24:=zQ.mk' (by decide) Tryz.underlying100 Ic rfl
def zw(S:List Nat)(g:Nat):Prop:=g ∉ S
theorem Acc.neAv{α:Type}{E:Enc α}{base:Nat}{e:TypeId}{X Y:Nat→Prop}{W:World}{v:Value}{xs:List α}{gA gM nn:Nat}{E':zv}{st:ASt}(h:Acc E base e X W v xs)(hA:AvW Y gA gM nn E' st W)(he:e≠125):v.ownBlock≠some gA∧v.ownBlock≠some gM:=by
 obtain ⟨⟨vc,vd,vo,hb,_⟩,⟨D,⟨es,cl,hm,_⟩,_⟩,_⟩:=hA;refine ⟨h.ne_bk hb he,fun ev=> ?_⟩;obtain ⟨_,css,_,_,h3⟩:=h;rcases h3.2 with ⟨rfl,_⟩|⟨g',cap,cur,rfl,_,hh,_⟩
 ·simp [Value.ownBlock] at ev
 ·obtain rfl:g'=gM:=by simpa [Value.ownBlock] using ev
  rw [hh] at hm;cases hm
theorem Acc.neAcc{α β:Type}{E:Enc α}{F:Enc β}{b b':Nat}{e f:TypeId}{X Y:Nat→Prop}{W:World}{v u:Value}{xs:List α}{ys:List β}(h:Acc E b e X W v xs)(k:Acc F b' f Y W u ys)(he:e≠f){g:Nat}(hg:v.ownBlock=some g):u.ownBlock≠some g:=fun hu=>by
 obtain ⟨_,css,_,_,h3⟩:=h;obtain ⟨_,dss,_,_,k3⟩:=k;rcases h3.2 with ⟨rfl,_⟩|⟨g1,cap,cur,rfl,_,hh,_⟩
 ·simp [Value.ownBlock] at hg
 ·rcases k3.2 with ⟨rfl,_⟩|⟨g2,cap2,cur2,rfl,_,kh,_⟩
  ·simp [Value.ownBlock] at hu
  ·obtain rfl:g1=g:=by simpa [Value.ownBlock] using hg
   obtain rfl:g2=g1:=by simpa [Value.ownBlock] using hu
   rw [hh] at kh;injection kh with kh
   injection kh with _ k2 _
   exact he k2
structure Rm (EV:Nat→zv) (S:List Nat) (L:List (Nat×Nat)) (sts:Nat→ASt) (nn:Nat) (W:World):Prop where
 sz: ∀g∈S,g< W.heap.size
 nd: ∀i j (hi:i< L.length) (hj:j< L.length),i≠j→(L[i].1≠L[j].1∧L[i].1≠L[j].2)∧L[i].2≠L[j].1∧L[i].2≠L[j].2
 sub: ∀i (h:i< L.length),L[i].1∈S∧L[i].2∈S
 av: ∀i (h:i< L.length),(EV i).ok∧AvW (zw S) L[i].1 L[i].2 nn (EV i) (sts i) W∧Za (EV i) (sts i)
section
variable {EV:Nat→zv} {S:List Nat} {L:List (Nat×Nat)} {sts:Nat→ASt} {nn:Nat} {W W':World}
theorem Rm.keep(h:Rm EV S L sts nn W){row:Option Nat}(hg:W.grownBy W' row)(hr: ∀b,row=some b→b∈S∧ ∀i (h:i< L.length),L[i].1≠b∧L[i].2≠b):Rm EV S L sts nn W' where
 sz:=fun g hgS=>nLl (h.sz g hgS) hg.size
 nd:=h.nd
 sub:=h.sub
 av:=fun i hi=>by
  obtain ⟨h1,h2,h3⟩:=h.av i hi;exact ⟨h1,h2.keep hg (fun g hX e=>hX (hr g e.symm).1) (fun e=>((hr _ e.symm).2 i hi).1 rfl) (fun e=>((hr _ e.symm).2 i hi).2 rfl),h3⟩
theorem Rm.kept(h:Rm EV S L sts nn W)(hg:W.grownBy W' none):Rm EV S L sts nn W':=h.keep hg (fun b e=>by cases e)
theorem Rm.up(h:Rm EV S L sts nn W){m:Nat}(hm:nn≤m):Rm EV S L sts m W:=⟨h.sz,h.nd,h.sub,fun i hi=>⟨(h.av i hi).1,(h.av i hi).2.1.upN hm,(h.av i hi).2.2⟩⟩
theorem Rm.less(h:Rm EV S L sts nn W)(hg:W.grownBy W' none){b:Nat}(hb:W.heap.size≤b)(hb':b< W'.heap.size):Rm EV (b::S) L sts nn W' where
 sz:=fun g hgS=>by
  rcases List.mem_cons.1 hgS with rfl|hgS
  ·exact hb'
  ·exact nLl (h.sz g hgS) hg.size
 nd:=h.nd
 sub:=fun i hi=>⟨mCm _ (h.sub i hi).1,mCm _ (h.sub i hi).2⟩
 av:=fun i hi=>by
  obtain ⟨h1,h2,h3⟩:=h.av i hi;exact ⟨h1,(h2.more (Y:=zw (b::S)) fun g hl hX e=>by
   rcases List.mem_cons.1 e with e|e
   ·omega
   ·exact hX e).kept hg,h3⟩
theorem Rm.free(h:Rm EV S L sts nn W){g:Nat}(hg:W.heap.size≤g):zw S g:=fun e=>by have:=h.sz g e;omega
theorem Rm.add(h:Rm EV S L sts nn W){gA gM:Nat}(hg:W.grownBy W' none)(hA:W.heap.size≤gA)(hM:W.heap.size≤gM)(hE:(EV L.length).ok)(hv:AvW (fun g=>W.heap.size≤g∧g≠gA∧g≠gM) gA gM 0 (EV L.length) ASt.start W')(hs:sts L.length=ASt.start):Rm EV (gA::gM::S) (L++ [(gA,gM)]) sts nn W' where
 sz:=fun g hgS=>by
  rcases List.mem_cons.1 hgS with rfl|hgS
  ·exact hv.ltA
  ·rcases List.mem_cons.1 hgS with rfl|hgS
   ·exact hv.ltM
   ·exact nLl (h.sz g hgS) hg.size
 nd:=fun i j hi hj hij=>by
  have old: ∀k (hk:k< L.length),L[k].1< W.heap.size∧L[k].2< W.heap.size:=fun k hk=>⟨h.sz _ (h.sub k hk).1,h.sz _ (h.sub k hk).2⟩
  simp only [List.length_append,List.length_cons,List.length_nil] at hi hj;rcases Nat.lt_or_ge i L.length with h1|h1<;>rcases Nat.lt_or_ge j L.length with h2|h2
  ·rw [List.getElem_append_left h1,List.getElem_append_left h2];exact h.nd i j h1 h2 hij
  ·obtain rfl:j=L.length:=by omega
   rw [List.getElem_append_left h1,List.getElem_append_right (nRf _)]
   have:=old i h1
   simp;omega
  ·obtain rfl:i=L.length:=by omega
   rw [List.getElem_append_left h2,List.getElem_append_right (nRf _)]
   have:=old j h2
   simp;omega
  ·omega
 sub:=fun i hi=>by
  simp only [List.length_append,List.length_cons,List.length_nil] at hi;rcases Nat.lt_or_ge i L.length with h1|h1
  ·rw [List.getElem_append_left h1];exact ⟨by simp [(h.sub i h1).1],by simp [(h.sub i h1).2]⟩
  ·obtain rfl:i=L.length:=by omega
   rw [List.getElem_append_right (nRf _)];simp
 av:=fun i hi=>by
  simp only [List.length_append,List.length_cons,List.length_nil] at hi;rcases Nat.lt_or_ge i L.length with h1|h1
  ·rw [List.getElem_append_left h1];obtain ⟨k1,k2,k3⟩:=h.av i h1;refine ⟨k1,(k2.more (Y:=zw (gA::gM::S)) fun g hl hX e=> ?_).kept hg,k3⟩;rcases List.mem_cons.1 e with e|e
   ·omega
   ·rcases List.mem_cons.1 e with e|e
    ·omega
    ·exact hX e
  ·obtain rfl:i=L.length:=by omega
   rw [List.getElem_append_right (nRf _)];simp only [Nat.sub_self,List.getElem_cons_zero];rw [hs];refine ⟨hE,(hv.more fun g _ hX e=> ?_).upN (Nat.zero_le _),Za.start _⟩;rcases List.mem_cons.1 e with e|e
   ·exact hX.2.1 e
   ·rcases List.mem_cons.1 e with e|e
    ·exact hX.2.2 e
    ·have:=h.sz g e
     omega
theorem Rm.take(h:Rm EV S L sts nn W){k:Nat}(hk:k< L.length)(hn:nn+3< maxLen){kind i:Int}(hk8:U8 kind)(hi:I64 i){v:Value}{l:List Int}{Y:Nat→Prop}(hl:Sl ze Y W v l)(hll:l.length≤100000):
  Calls prog 21 #[.pointer (some ⟨L[k].1,0,none⟩), .int .u8 kind, .int .i64 i,v] W fun e W'=> ∃v',e= .returned v'∧Sl YG (zw S) W' v' (zV (EV k) (sts k) kind i l).2∧Rm EV S L (fun j=>if j=k then (zV (EV k) (sts k) kind i l).1 else sts j) (nn+3) W'∧zJ L[k].1 L[k].2 W W':=by
 obtain ⟨k1,k2,k3⟩:=h.av k hk;have hXA: ¬zw S L[k].1:=fun e=>e (h.sub k hk).1
 have hXM: ¬zw S L[k].2:=fun e=>e (h.sub k hk).2
 refine (IY (EV k) (sts k) L[k].1 L[k].2 nn (nn+3) kind i v l (zw S) Y W k1 k2 k3 hk8 hi hXA hXM (fun g hg=>h.free hg) ⟨nRf _,hn⟩ hl hll).mono ?_;rintro e W' ⟨v',Z,rfl,z1,z2,z3,z4⟩;refine ⟨v',rfl,z2.sl.more fun g _ hg=>h.free (z1 g hg),⟨fun g hg=>nLl (h.sz g hg) z4.size,h.nd,h.sub,fun j hj=> ?_⟩,z4⟩;by_cases hjk:j=k
 ·subst hjk;rw [if_pos rfl];exact ⟨k1,z3.more fun g _ hg=>hg.1,Za.take k1 k3 _ _ _⟩
 ·rw [if_neg hjk];obtain ⟨q1,q2,q3⟩:=h.av j hj;have hd:=h.nd j k hj hk hjk;exact ⟨q1,(q2.keep2 z4 hXA hXM hd.1 hd.2).upN (by omega),q3⟩
end
structure AwF (w:World) (gp B:Nat) (vd vc:Value) (W:World):Prop where
 g:w.grownBy W none
 b:w.heap.size≤B
 sz:B≤W.heap.size
 par:Bk W gp 39 p4.cells
 gpl:gp< B
 ds:Sl VC (fun g=>g< B) W vd [DL5]
 cm:Sl (zh ze) (fun g=>g< B) W vc CM5
section
variable {w W W':World} {gp B:Nat} {vd vc:Value}
theorem AwF.keep(h:AwF w gp B vd vc W){row:Option Nat}(hg:W.grownBy W' row)(hr: ∀b,row=some b→B≤b):AwF w gp B vd vc W' where
 g:=zz h.g hg (fun b e=>nLT h.b (hr b e))
 b:=h.b
 sz:=nLT h.sz hg.size
 par:=h.par.grown hg (fun e=>by have:=hr _ e.symm;have:=h.gpl;omega)
 gpl:=h.gpl
 ds:=h.ds.keep hg (fun g hg e=>by have:=hr _ e.symm;omega)
 cm:=h.cm.keep hg (fun g hg e=>by have:=hr _ e.symm;omega)
theorem AwF.kept(h:AwF w gp B vd vc W)(hg:W.grownBy W' none):AwF w gp B vd vc W':=h.keep hg (fun b e=>by cases e)
theorem AwF.keep2(h:AwF w gp B vd vc W){gA gM:Nat}(hg:zJ gA gM W W')(hA:B≤gA)(hM:B≤gM):AwF w gp B vd vc W':=by
 obtain ⟨u,k1,k2⟩:=hg.split;exact (h.keep k1 (fun b e=>by injection e with e;omega)).keep k2 (fun b e=>by injection e with e;omega)
end
noncomputable def stJ(i k:Nat):ASt:=if k< i∧k< 3 then (tA ((k:Int)+1)).1 else ASt.start
noncomputable def FX(i:Nat):List (List yL):=(List.range (min i 3)).map fun k:Nat=>(tA ((k:Int)+1)).2
abbrev EW(k:Nat):zv:=EE ((k:Int)+1)
theorem BZ(k:Nat)(h:k< 4):(EW k).ok:=Ag _ ⟨by omega,by omega⟩
theorem NM(i:Nat):stJ i i=ASt.start:=by unfold stJ;rw [if_neg (by omega)]
theorem Cc(i:Nat)(h:i< 3):(tA ((i:Int)+1)).2.length=3∧toI 8 4 (tA ((i:Int)+1)).2≠ []:=by
 have h0:=CB;simp only [awB,Bool.and_eq_true] at h0;have key: ∀j,okA j=true→(tA j).2.length=3∧toI 8 4 (tA j).2≠ []:=fun j hj=>by
  simp only [okA,Bool.and_eq_true,decide_eq_true_eq] at hj;exact ⟨hj.1,fun e=>hj.2 (by rw [e];rfl)⟩
 have hi:i=0∨i=1∨i=2:=by omega
 rcases hi with rfl|rfl|rfl
 ·exact key 1 h0.1.1.1.1.1.1
 ·exact key 2 h0.1.1.1.1.1.2
 ·exact key 3 h0.1.1.1.1.2
theorem Jw(i:Nat)(h:i< 3):FX (i+1)=FX i++ [(tA ((i:Int)+1)).2]:=by
 unfold FX;rw [Nat.min_eq_left (by omega),Nat.min_eq_left (by omega),List.range_succ,lMa];rfl
theorem Ef:CL 4 DL5:=by
 have h:=Cr (p:=p4) Jv ⟨by decide,by decide⟩ 5 2 0;rw [Eg] at h;exact h
theorem FI{b:Nat}{e:TypeId}{X:Nat→Prop}{W:World}{v:Value}{xs:List Nat}(h:Acc Hx b e X W v xs):Acc Hx b e (fun g=>v.ownBlock=some g) W v xs:=by
 obtain ⟨hb,css,r1,r2,r3⟩:=h;exact ⟨fun g e=>e,css,r1,fun i hi hi'=>r2 i hi hi',r3⟩
theorem Acc.keep2{α:Type}{E:Enc α}{b:Nat}{e:TypeId}{X:Nat→Prop}{W W':World}{v:Value}{xs:List α}{gA gM:Nat}(h:Acc E b e X W v xs)(hg:zJ gA gM W W')(hA: ¬X gA)(hM: ¬X gM):Acc E b e X W' v xs:=by
 obtain ⟨u,k1,k2⟩:=hg.split;exact (h.keep k1 (fun g hx e=>by injection e with e;rw [e] at hx;exact hM hx)).keep k2 (fun g hx e=>by injection e with e;rw [e] at hx;exact hA hx)
theorem Rm.push{EV:Nat→zv}{S:List Nat}{L:List (Nat×Nat)}{sts:Nat→ASt}{nn:Nat}{W W':World}(h:Rm EV S L sts nn W){α:Type}{E:Enc α}{base base':Nat}{e:TypeId}{X X':Nat→Prop}{v v':Value}{xs xs':List α}(ha:Acc E base e X W v xs)(he:e≠125)(ho: ∀b,v.ownBlock=some b→b∈S)(hg:W.grownBy W' v.ownBlock)(hm:xR W v v')(ha':Acc E base' e X' W' v' xs'):
  ∃S',Rm EV S' L sts nn W'∧(∀b,v'.ownBlock=some b→b∈S')∧ ∀g,g∈S→g∈S':=by
 have hk:Rm EV S L sts nn W':=h.keep hg fun b e=>⟨ho b e,fun i hi=>by
  have:=ha.neAv (h.av i hi).2.1 he
  rw [e] at this;exact ⟨fun e2=>this.1 (by rw [e2]),fun e2=>this.2 (by rw [e2])⟩⟩
 rcases hm with hm|⟨n,hn,hm⟩
 ·exact ⟨S,hk,fun b e=>ho b (by rw [←hm];exact e),fun g h=>h⟩
 ·refine ⟨n::S,⟨fun g hgS=> ?_,h.nd,fun i hi=>⟨mCm _ (h.sub i hi).1,mCm _ (h.sub i hi).2⟩,fun i hi=> ?_⟩,fun b e=> ?_,fun g h=>mCm _ h⟩
  ·rcases List.mem_cons.1 hgS with rfl|hgS
   ·exact (ha'.lt _ hm).2
   ·exact hk.sz g hgS
  ·obtain ⟨h1,h2,h3⟩:=h.av i hi;have hne:=ha.neAv h2 he;refine ⟨h1,(h2.more (Y:=zw (n::S)) fun g hl hX e=> ?_).keep hg (fun g hX e=>hX (mCm _ (ho g e.symm))) (fun e=>hne.1 e.symm) (fun e=>hne.2 e.symm),h3⟩;rcases List.mem_cons.1 e with e|e
   ·omega
   ·exact hX e
  ·rw [hm] at e;injection e with e
   rw [←e];exact mCs
theorem Rm.take_last{EV:Nat→zv}{S:List Nat}{L:List (Nat×Nat)}{sts:Nat→ASt}{nn gA gM:Nat}{W:World}(h:Rm EV S (L++ [(gA,gM)]) sts nn W)(hn:nn+3< maxLen){kind i:Int}(hk8:U8 kind)(hi:I64 i){v:Value}{l:List Int}{Y:Nat→Prop}(hl:Sl ze Y W v l)(hll:l.length≤100000):
  Calls prog 21 #[.pointer (some ⟨gA,0,none⟩), .int .u8 kind, .int .i64 i,v] W fun e W'=> ∃v',e= .returned v'∧Sl YG (zw S) W' v' (zV (EV L.length) (sts L.length) kind i l).2∧Rm EV S (L++ [(gA,gM)]) (fun j=>if j=L.length then (zV (EV L.length) (sts L.length) kind i l).1 else sts j) (nn+3) W'∧zJ gA gM W W':=by
 have h2:=h.take (k:=L.length) (by simp) hn hk8 hi hl hll;have e:(L++ [(gA,gM)])[L.length]'(by simp)=(gA,gM):=by simp
 rw [e] at h2;exact h2
structure AwM (w:World) (gp B:Nat) (vd vc:Value) (S:List Nat) (L:List (Nat×Nat)) (xs:List Nat) (s5 s6:Value) (sts:Nat→ASt) (nn:Nat) (outs:List (List yL)) (W:World):Prop where
 rm:Rm EW S L sts nn W
 f:AwF w gp B vd vc W
 bd: ∀k (h:k< L.length),B≤L[k].1∧B≤L[k].2
 a5:Acc Hx B 53 (fun g=>s5.ownBlock=some g) W s5 xs
 o5: ∀b,s5.ownBlock=some b→b∈S
 a6:Acc (zh YG) B 63 (fun g=>(∀k (h:k< L.length),g≠L[k].1∧g≠L[k].2)∧s5.ownBlock≠some g) W s6 outs
 o6: ∀b,s6.ownBlock=some b→b∈S
section
variable {w W W':World} {gp B:Nat} {vd vc s5 s6:Value} {S:List Nat} {L:List (Nat×Nat)} {xs:List Nat} {sts:Nat→ASt} {nn:Nat} {outs:List (List yL)}
theorem AwM.kept(h:AwM w gp B vd vc S L xs s5 s6 sts nn outs W)(hg:W.grownBy W' none):AwM w gp B vd vc S L xs s5 s6 sts nn outs W':=⟨h.rm.kept hg,h.f.kept hg,h.bd,h.a5.kept hg,h.o5,h.a6.kept hg,h.o6⟩
theorem AwM.new(h:AwM w gp B vd vc S L xs s5 s6 sts nn outs W){gA gM:Nat}(hg:W.grownBy W' none)(hA:W.heap.size≤gA)(hM:W.heap.size≤gM)(hE:(EW L.length).ok)(hv:AvW (fun g=>W.heap.size≤g∧g≠gA∧g≠gM) gA gM 0 (EW L.length) ASt.start W')(hs:sts L.length=ASt.start):AwM w gp B vd vc (gA::gM::S) (L++ [(gA,gM)]) xs s5 s6 sts nn outs W' where
 rm:=h.rm.add hg hA hM hE hv hs
 f:=h.f.kept hg
 bd:=fun k hk=>by
  simp only [List.length_append,List.length_cons,List.length_nil] at hk;have hB:=h.f.sz;rcases Nat.lt_or_ge k L.length with h1|h1
  ·rw [List.getElem_append_left h1];exact h.bd k h1
  ·obtain rfl:k=L.length:=by omega
   rw [List.getElem_append_right (nRf _)];simp;omega
 a5:=h.a5.kept hg
 o5:=fun b e=>by simp [h.o5 b e]
 a6:=(h.a6.more fun g hl hX=>⟨fun k hk=>by
  simp only [List.length_append,List.length_cons,List.length_nil] at hk;rcases Nat.lt_or_ge k L.length with h1|h1
  ·rw [List.getElem_append_left h1];exact hX.1 k h1
  ·obtain rfl:k=L.length:=by omega
   rw [List.getElem_append_right (nRf _)];simp;omega,hX.2⟩).kept hg
 o6:=fun b e=>by simp [h.o6 b e]
theorem AwM.push5(h:AwM w gp B vd vc S L xs s5 s6 sts nn outs W){v:Value}{x:Nat}(ha:Acc Hx B 53 (fun _=>True) W' v (xs++ [x]))(hg:W.grownBy W' s5.ownBlock)(hm:xR W s5 v): ∃S',AwM w gp B vd vc S' L (xs++ [x]) v s6 sts nn outs W':=by
 have h5:Acc Hx B 53 (fun _=>True) W s5 xs:=h.a5.more fun _ _ _=>trivial
 obtain ⟨S',r1,r2,r3⟩:=h.rm.push h5 (by decide) h.o5 hg hm ha;refine ⟨S',r1,h.f.keep hg (fun b e=>(h.a5.lt b e).1),h.bd,FI ha,r2, ?_,fun b e=>r3 b (h.o6 b e)⟩;refine (h.a6.more (Y:=fun g=>((∀k (hk:k< L.length),g≠L[k].1∧g≠L[k].2)∧v.ownBlock≠some g)∧s5.ownBlock≠some g) fun g hl hX=>⟨⟨hX.1,hm.ne hl hX.2⟩,hX.2⟩).keep hg (fun g hX e=>hX.2 e.symm)|>.more fun g _ hX=>hX.1
theorem AwM.push6(h:AwM w gp B vd vc S L xs s5 s6 sts nn outs W){v:Value}{x:List yL}(ha:Acc (zh YG) B 63 (fun g=>(∀k (h:k< L.length),g≠L[k].1∧g≠L[k].2)∧s5.ownBlock≠some g) W' v (outs++ [x]))(hg:W.grownBy W' s6.ownBlock)(hm:xR W s6 v): ∃S',AwM w gp B vd vc S' L xs s5 v sts nn (outs++ [x]) W':=by
 obtain ⟨S',r1,r2,r3⟩:=h.rm.push h.a6 (by decide) h.o6 hg hm ha;refine ⟨S',r1,h.f.keep hg (fun b e=>(h.a6.lt b e).1),h.bd,h.a5.keep hg (fun g hX e=>(h.a5.neAcc h.a6 (by decide) hX) e.symm),fun b e=>r3 b (h.o5 b e),ha,r2⟩
end
theorem AwM.take{w W:World}{gp B:Nat}{vd vc s5 s6:Value}{S:List Nat}{L:List (Nat×Nat)}{xs:List Nat}{sts:Nat→ASt}{nn gA gM:Nat}{outs:List (List yL)}(h:AwM w gp B vd vc S (L++ [(gA,gM)]) xs s5 s6 sts nn outs W)(hn:nn+3< maxLen){kind i:Int}(hk8:U8 kind)(hi:I64 i){v:Value}{l:List Int}{Y:Nat→Prop}(hl:Sl ze Y W v l)(hll:l.length≤100000){st:ASt}(hst:sts L.length=st){r:ASt×List yL}(hr:yZ (EW L.length) st kind i l=r):
  Calls prog 21 #[.pointer (some ⟨gA,0,none⟩), .int .u8 kind, .int .i64 i,v] W fun e W'=> ∃v',e= .returned v'∧Sl YG (zw S) W' v' r.2∧AwM w gp B vd vc S (L++ [(gA,gM)]) xs s5 s6 (fun j=>if j=L.length then r.1 else sts j) (nn+3) outs W':=by
 have hlast:L.length< (L++ [(gA,gM)]).length:=by simp
 have hav:=h.rm.av L.length hlast;have e0:(L++ [(gA,gM)])[L.length]'hlast=(gA,gM):=by simp
 have hbd:=h.bd L.length hlast;rw [e0] at hav hbd;refine (h.rm.take_last hn hk8 hi hl hll).mono ?_;rintro e W' ⟨v',rfl,z1,z2,z3⟩;have e1:zV (EW L.length) (sts L.length) kind i l=r:=by rw [hst,Mx hav.1 rfl,hr]
 rw [e1] at z1 z2;have n5:=h.a5.neAv hav.2.1 (by decide);refine ⟨v',rfl,z1,z2,h.f.keep2 z3 hbd.1 hbd.2,h.bd,h.a5.keep2 z3 n5.1 n5.2,h.o5,h.a6.keep2 z3 (fun e=> ?_) (fun e=> ?_),h.o6⟩
 ·have:=e.1 L.length hlast
  rw [e0] at this;exact this.1 rfl
 ·have:=e.1 L.length hlast
  rw [e0] at this;exact this.2 rfl
def AwL(w:World)(gp B:Nat)(vd vc:Value)(i:Nat)(s5 s6:Value)(W:World):Prop:= ∃(S:List Nat) (L:List (Nat×Nat)),L.length=i∧AwM w gp B vd vc S L (L.map (·.1)) s5 s6 (stJ i) (3*i) (FX i) W
structure Aw2 (w:World) (gp B:Nat) (vd vc:Value) (S:List Nat) (L:List (Nat×Nat)) (s5 s6:Value) (sts:Nat→ASt) (nn:Nat) (W:World):Prop where
 len:L.length=4
 rm:Rm EW S L sts nn W
 f:AwF w gp B vd vc W
 bd: ∀k (h:k< L.length),B≤L[k].1∧B≤L[k].2
 a5:Sl Hx (fun g=> ∀k (h:k< L.length),g≠L[k].1∧g≠L[k].2) W s5 (L.map (·.1))
 a6:Sl (zh YG) (fun g=> ∀k (h:k< L.length),g≠L[k].1∧g≠L[k].2) W s6 (FX 4)
theorem AwL.fin{w W:World}{gp B:Nat}{vd vc s5 s6:Value}(h:AwL w gp B vd vc 4 s5 s6 W): ∃S L,Aw2 w gp B vd vc S L s5 s6 (stJ 4) 12 W:=by
 obtain ⟨S,L,h1,h⟩:=h;refine ⟨S,L,h1,h.rm,h.f,h.bd,h.a5.sl.more fun g _ e k hk=> ?_,h.a6.sl.more fun g _ e=>e.1⟩;have hn:=h.a5.neAv (h.rm.av k hk).2.1 (by decide);exact ⟨fun e2=>hn.1 (by rw [←e2];exact e),fun e2=>hn.2 (by rw [←e2];exact e)⟩
section
variable {w W W':World} {gp B:Nat} {vd vc s5 s6:Value} {S:List Nat} {L:List (Nat×Nat)} {sts:Nat→ASt} {nn:Nat}
theorem Aw2.kept(h:Aw2 w gp B vd vc S L s5 s6 sts nn W)(hg:W.grownBy W' none):Aw2 w gp B vd vc S L s5 s6 sts nn W':=⟨h.len,h.rm.kept hg,h.f.kept hg,h.bd,h.a5.kept hg,h.a6.kept hg⟩
theorem Aw2.take(h:Aw2 w gp B vd vc S L s5 s6 sts nn W){k:Nat}(hk:k< L.length)(hn:nn+3< maxLen){kind i:Int}(hk8:U8 kind)(hi:I64 i){v:Value}{l:List Int}{Y:Nat→Prop}(hl:Sl ze Y W v l)(hll:l.length≤100000){st:ASt}(hst:sts k=st){r:ASt×List yL}(hr:yZ (EW k) st kind i l=r):
  Calls prog 21 #[.pointer (some ⟨L[k].1,0,none⟩), .int .u8 kind, .int .i64 i,v] W fun e W'=> ∃v',e= .returned v'∧Sl YG (zw S) W' v' r.2∧Aw2 w gp B vd vc S L s5 s6 (fun j=>if j=k then r.1 else sts j) (nn+3) W'∧zJ L[k].1 L[k].2 W W':=by
 refine (h.rm.take hk hn hk8 hi hl hll).mono ?_;rintro e W' ⟨v',rfl,z1,z2,z3⟩;have e:zV (EW k) (sts k) kind i l=r:=by rw [hst,Mx (h.rm.av k hk).1 rfl,hr]
 rw [e] at z1 z2;have hb:=h.bd k hk;exact ⟨v',rfl,z1,⟨h.len,z2,h.f.keep2 z3 hb.1 hb.2,h.bd,h.a5.keep2 z3 (fun e=>(e k hk).1 rfl) (fun e=>(e k hk).2 rfl),h.a6.keep2 z3 (fun e=>(e k hk).1 rfl) (fun e=>(e k hk).2 rfl)⟩,z3⟩
theorem Aw2.nums(h:Aw2 w gp B vd vc S L s5 s6 sts nn W)(kind f me:Int)(hk:U8 kind)(hf:I64 f)(hme:1≤me∧me≤4):Calls prog 20 #[.agg #[.int .u8 kind, .int .i64 f, .int .u8 1, .slice none 0 0],p4.v,vd, .int .i64 me] W fun e W'=> ∃v',e= .returned v'∧Sl ze (fun _=>True) W' v' (Uh p4 kind f 1 [] [DL5] me)∧Aw2 w gp B vd vc S L s5 s6 sts nn W'∧W.grownBy W' none:=
 (YY p4 kind f 1 (.slice none 0 0) vd [] [DL5] me (fun _=>False) _ W (ZY false) ⟨by decide,by decide⟩ ⟨by decide,by decide⟩ hk hf (Sl.nil _ _ _) h.f.ds (fun d hd=>by rw [List.mem_singleton.1 hd];exact Ef) (by decide) hme).mono (by
  rintro e W' ⟨v',rfl,h1,h2⟩;exact ⟨v',rfl,h1.more fun _ _ _=>trivial,h.kept h2,h2⟩)
end
end
section
open Go Go.RowKit Go.Shelf Go.Maps
theorem rB1:yZ (EW 0) (tA 1).1 8 2 (toI 8 1 (tA 2).2)=tB1:=rfl
theorem rB2:yZ (EW 0) tB1.1 8 3 (toI 8 1 (tA 3).2)=tB2:=rfl
theorem rB3:yZ (EW 0) tB2.1 9 2 (nR 2 1)=tB3:=rfl
theorem rB4:yZ (EW 0) tB3.1 9 3 (nR 3 1)=tB4:=rfl
theorem rD1:yZ (EW 3) ASt.start 9 2 (nR 2 4)=tD1:=rfl
theorem rD2:yZ (EW 3) tD1.1 9 3 (nR 3 4)=tD2:=rfl
theorem zaD:(tA 2).2.length≤100000:=by decide+kernel
theorem zaC:(tA 3).2.length≤100000:=by decide+kernel
theorem BN:(toI 8 1 (tA 2).2).length≤100000:=by decide+kernel
theorem BM:(toI 8 1 (tA 3).2).length≤100000:=by decide+kernel
theorem zaB:tB1.2.length=0:=by decide+kernel
theorem zaj:tB2.2.length=3:=by decide+kernel
theorem BX:toI 9 4 tB2.2≠ []:=by decide+kernel
theorem BY:tB2.1.done=false:=by decide+kernel
theorem zaA:tB3.2.length=0:=by decide+kernel
theorem zai:tB4.2.length=1:=by decide+kernel
theorem BV:(toI 10 0 tB4.2).length=4:=by decide+kernel
theorem BW:tB4.1.done=true:=by decide+kernel
theorem zaz:tD1.2.length=0:=by decide+kernel
theorem CS:tD2.2.length=4:=by decide+kernel
theorem BT:(tD2.2[3]?.getD (0,0, [])).1=10:=by decide+kernel
theorem BU:tD2.1.done=true:=by decide+kernel
theorem BS:(tD2.1.own.map fun o=>o.a.map (atP 11 0))=some ((DL5.a[3]?.getD []).map (atP 11 0)):=by decide+kernel
theorem BR:(nR 2 1).length≤100000:=by decide+kernel
theorem BP:(nR 3 1).length≤100000:=by decide+kernel
theorem BQ:(nR 2 4).length≤100000:=by decide+kernel
theorem BO:(nR 3 4).length≤100000:=by decide+kernel
theorem Bu(i:Nat)(h:i< 3):(nD ((i:Int)+1)).length≤100000:=by
 have hi:i=0∨i=1∨i=2:=by omega
 rcases hi with rfl|rfl|rfl<;>decide+kernel
theorem xj(n:Nat)(h:n< 1000000):n< maxLen:=by unfold maxLen;omega
theorem Gz(i:Nat)(h:i< 3):stJ (i+1)=fun j=>if j=i then (tA ((i:Int)+1)).1 else stJ i j:=by
 funext k
 unfold stJ;by_cases hk:k=i
 ·subst hk;rw [if_pos rfl,if_pos ⟨by omega,h⟩]
 ·rw [if_neg hk];by_cases h2:k< i∧k< 3
  ·rw [if_pos ⟨by omega,h2.2⟩,if_pos h2]
  ·rw [if_neg (fun e=>h2 ⟨by omega,e.2⟩),if_neg h2]
attribute [local go_sem] Oper.semAt_some
theorem Vl(w:World)(hT:yd w):Calls prog 10 #[] w fun e w'=>e= .returned (.bool true)∧w.grownBy w' none:=by
 have X1:=za hT;clear hT;go_enter func10,ntmps10;go_wp2_with fail;refine (UC false w).mono ?_;rintro e w1 ⟨rfl,hg1⟩;obtain ⟨w2,R0⟩:=exq (w1.alloc (Obj.cells p4.cells 39));obtain ⟨gp,W0⟩:=exq (w1.heap.size);have f1:Hid (Bk w2 gp 39 p4.cells):=za (by rw [R0,W0];exact Bk.new _ _ _);have a1:Hid (w.grownBy w2 none):=za (by rw [R0];exact hg1.trans (gAl _ _ none));have M1:(p19 false).v=p4.v:=rfl;rw [M1];clear hg1 M1;go_upto_region 2 with (fail)
 first|rw [←R0, ←W0]|(have Q0:w1.alloc (Obj.cells #[.int .u64 23, .int .u64 11, .int .u64 4, .int .u64 9, .int .i64 4, .int .i64 4, .int .i64 1, .int .i64 1, .int .i64 1, .int .i64 1, .int .i64 1, .int .i64 1] 39)=w2:=R0.symm;rw [Q0, ←W0];clear Q0)
 clear R0 W0;have hp:=f1.z.prule;go_wp2_with fail;refine (Tz p4 2 5 1 w2 (ZY false) Jv ⟨rfl,rfl⟩ (X1.z.kept a1.z) ⟨by decide,by decide⟩ ⟨by decide,by decide⟩ (by decide)).mono ?_;rintro e w3 ⟨vd,vc,rfl,hds,hcm,hg3⟩;have D0:Sl VC (fun _=>True) w3 vd [DL5]:=by
  have h:=hds;rw [show (List.range 1).map (dlD p4 5 2)= [dlD p4 5 2 0] from rfl,Eg] at h;exact h
 rw [Cx] at hcm;have K1:Hid (AwF w gp w3.heap.size vd vc w3):=za ⟨a1.z.trans hg3,(a1.z.trans hg3).size,nRf _,f1.z.grown hg3 (by simp),nLl f1.z.lt hg3.size,D0.more fun g h _=>h,hcm.more fun g h _=>h⟩;obtain ⟨B,hB⟩:=exq (w3.heap.size);have HB:=za hB;rw [←hB] at K1;obtain ⟨Ad,nd,cd,rfl⟩:=D0.shape;obtain ⟨Ac,nc,cc,rfl⟩:=hcm.shape;have L2:Hid (AwL w gp B (.slice Ad nd cd) (.slice Ac nc cc) 0 (.slice none 0 0) (.slice none 0 0) w3):=za ⟨[], [],rfl,⟨(fun g h=>absurd h (by simp)),(fun i j hi=>absurd hi (by simp)),(fun i hi=>absurd hi (by simp)),(fun i hi=>absurd hi (by simp))⟩,K1.z,(fun k hk=>absurd hk (by simp)),Acc.nil _ _ _ _ _,(fun b e=>by simp [Value.ownBlock] at e),Acc.nil _ _ _ _ _,(fun b e=>by simp [Value.ownBlock] at e)⟩;clear hp hds D0 hcm hg3 hB f1 a1 K1;go_wp2_with fail;go_loopg [5,6,7,8,9,10] 4 (fun g s5 s6 s7 s8 s9 s10 wx=> ∃i:Nat,i+g=4∧s7= .int .i64 ((i:Int)+1)∧Hid (AwL w gp B (.slice Ad nd cd) (.slice Ac nc cc) i s5 s6 wx))
 case atStart=>exact ⟨0,by omega,rfl,L2⟩
 case round=>
  rename World=>wr
  obtain ⟨i,hi,rfl,HX⟩:=hrel;rcases Nat.eq_zero_or_pos gk with hg0|hg0
  ·obtain rfl:i=4:=by omega
   obtain ⟨S,L,hA⟩:=HX.z.fin;have HA:=za hA;clear HX hA hg0;obtain ⟨p0,p1,p2,p3,rfl⟩: ∃p0 p1 p2 p3,L= [p0,p1,p2,p3]:=by
    have h:=HA.z.len
    match L,h with
    | [a,b,c,d],_=>exact ⟨a,b,c,d,rfl⟩
   obtain ⟨g5,o5,c5,e5,_,_,x1⟩:=HA.z.a5.atA (k:=0) (by simp);subst e5;have l2:wr.cell? ⟨g5,o5,none⟩=some (.pointer (some ⟨p0.1,0,none⟩)):=x1;obtain ⟨g6,o6,c6,v61,e6,_,_,u2,s61⟩:=HA.z.a6.atS (k:=1) (by decide);subst e6;have s61:Sl YG _ wr v61 (tA 2).2:=s61;have b2:=za (XK v61 (tA 2).2 8 1 _ wr s61 zaD);obtain ⟨A61,n61,c61,e61⟩:=s61.shape;subst e61;have k0:Hid (0< [p0,p1,p2,p3].length∧3< [p0,p1,p2,p3].length):=za ⟨by simp,by simp⟩;clear x1 s61;go_wp2_with fail;refine b2.z.mono ?_;rintro e w8 ⟨v8,rfl,ew,hs8⟩;subst w8;have b0:=za (HA.z.take k0.z.1 (xj _ (by decide)) (show U8 8 from ⟨by decide,by decide⟩) (show I64 2 from ⟨by decide,by decide⟩) hs8 BN (st:=(tA 1).1) rfl (r:=tB1) rB1);obtain ⟨A8,n8,c8,e8⟩:=hs8.shape;subst e8;clear hs8 b2;go_wp2_with fail;refine b0.z.mono ?_;rintro e w9 ⟨v9,rfl,hs9,hA9,_⟩;have g2:=za hA9;obtain ⟨A9,c9,e9,_,_⟩:=hs9.form;rw [zaB] at e9;subst e9;obtain ⟨g6',o6',c6',v62,e6,_,_,t2,s62⟩:=g2.z.a6.atS (k:=2) (by decide);injection e6 with e6a e6b e6c
   injection e6a with e6a
   injection e6a with e6d e6e
   subst e6d e6e;have s62:Sl YG _ w9 v62 (tA 3).2:=s62;have a2:=za (XK v62 (tA 3).2 8 1 _ w9 s62 zaC);obtain ⟨A62,n62,c62,e62⟩:=s62.shape;subst e62;clear hs9 hA9 s62 b0 l2 u2 e6b e6c;go_wp2_with fail;refine a2.z.mono ?_;rintro e w10 ⟨v10,rfl,ew,hs10⟩;subst w10;have b0:=za (g2.z.take k0.z.1 (xj _ (by decide)) (show U8 8 from ⟨by decide,by decide⟩) (show I64 3 from ⟨by decide,by decide⟩) hs10 BM (st:=tB1.1) rfl (r:=tB2) rB2);obtain ⟨A10,n10,c10,e10⟩:=hs10.shape;subst e10;clear hs10 a2 t2;go_wp2_with fail;refine b0.z.mono ?_;rintro e w11 ⟨v11,rfl,hs11,hA11,_⟩;have a0:=za hA11;obtain ⟨A11,c11,e11,_,_⟩:=hs11.form;rw [zaj] at e11;subst e11;have Y0:=za (XK _ tB2.2 9 4 _ w11 hs11 (by rw [zaj];decide));clear hs11 hA11 b0;go_wp2_with fail;refine Y0.z.mono ?_;rintro e w12 ⟨v12,rfl,ew,hs12⟩;subst w12;have B0:=List.length_pos_iff.2 BX;obtain ⟨g12,o12,c12,e12,_⟩:=hs12.atU B0;subst e12;have s2:(binOp .eql 31 (.slice (some ⟨g12,o12,none⟩) (toI 9 4 tB2.2).length c12) (.slice none 0 0)).run prog w11= .ok (.bool false) w11:=Mn w11 (some ⟨g12,o12,none⟩) _ _;obtain ⟨_,⟨⟨qc,qd,qo,T0,_⟩,_,_⟩,_⟩:=a0.z.rm.av 0 k0.z.1;have c0:Bk w11 p0.1 125 (zB (EW 0) qc qd qo p0.2 tB2.1.done):=T0;rw [BY] at c0;have b1:=za (Vm (EW 0) p0.1 p0.2 qc qd qo false w11 c0);clear hs12 Y0 T0 c0;go_wp2_with fail;refine b1.z.mono ?_;rintro e w12 ⟨rfl,ew⟩;subst w12;clear b1;obtain ⟨gb1,m0⟩:=exq (w11.heap.size);obtain ⟨w13,l0⟩:=exq ((w11.alloc (.cells #[.int .u8 9, .int .i64 2, .int .u8 1, .slice none 0 0] 61)).alloc (.cells #[.int .u8 9, .int .i64 3, .int .u8 1, .slice none 0 0] 61))
   have B1:w11.grownBy w13 none:=by rw [l0];exact (gAl _ _ none).trans (gAl _ _ none)
   have L0:=za (a0.z.kept B1);have g1:Hid (Bk w13 gb1 61 #[.int .u8 9, .int .i64 2, .int .u8 1, .slice none 0 0]∧Bk w13 (gb1+1) 61 #[.int .u8 9, .int .i64 3, .int .u8 1, .slice none 0 0]):=za (by
    rw [l0,m0];refine ⟨(Bk.new w11 _ _).alloc _, ?_⟩;have h:=Bk.new (w11.alloc (.cells #[.int .u8 9, .int .i64 2, .int .u8 1, .slice none 0 0] 61)) 61 #[.int .u8 9, .int .i64 3, .int .u8 1, .slice none 0 0];rw [World.size_alloc] at h;exact h)
   have L1:Hid ((p0.1< gb1∧p0.2< gb1)∧p3.1< gb1∧p3.2< gb1):=za (by
    rw [m0];have h0:=a0.z.rm.sub 0 k0.z.1;have h3:=a0.z.rm.sub 3 k0.z.2;exact ⟨⟨a0.z.rm.sz _ h0.1,a0.z.rm.sz _ h0.2⟩,a0.z.rm.sz _ h3.1,a0.z.rm.sz _ h3.2⟩)
   have j2:=a0.z.f.par.prule;go_upto_region 27 with (fail)
   rw [←l0, ←m0];clear l0 m0;have o1:=g1.z.1.rule;have u1:=L0.z.f.par.prule;have j0:=za (L0.z.nums 9 2 1 (show U8 9 from ⟨by decide,by decide⟩) (show I64 2 from ⟨by decide,by decide⟩) ⟨by decide,by decide⟩);clear j2 a0;go_wp2_with fail;refine j0.z.mono ?_;rintro e w14 ⟨v14,rfl,hs14,hA14,hg14⟩;have u0:Sl ze (fun _=>True) w14 v14 (nR 2 1):=hs14;have b0:=za (hA14.take k0.z.1 (xj _ (by decide)) (show U8 9 from ⟨by decide,by decide⟩) (show I64 2 from ⟨by decide,by decide⟩) u0 BR (st:=tB2.1) rfl (r:=tB3) rB3);obtain ⟨A14,n14,c14,e14⟩:=hs14.shape;subst e14;clear hs14 u0 hA14 j0 o1 u1;go_wp2_with fail;refine b0.z.mono ?_;rintro e w15 ⟨v15,rfl,hs15,hA15,hg15⟩;obtain ⟨A15,c15,e15,_,_⟩:=hs15.form;rw [zaA] at e15;subst e15;have i0:zJ p0.1 p0.2 w14 w15:=hg15;have K0:=za hA15;have o0:Hid (Bk w15 gb1 61 #[.int .u8 9, .int .i64 2, .int .u8 1, .slice none 0 0]∧Bk w15 (gb1+1) 61 #[.int .u8 9, .int .i64 3, .int .u8 1, .slice none 0 0]):=za (by
    have h:=L1.z.1;exact ⟨(g1.z.1.grown hg14 (by simp)).keep2 i0 (by omega) (by omega),(g1.z.2.grown hg14 (by simp)).keep2 i0 (by omega) (by omega)⟩)
   have l1:=o0.z.2.rule;have t1:=K0.z.f.par.prule;have j0:=za (K0.z.nums 9 3 1 (show U8 9 from ⟨by decide,by decide⟩) (show I64 3 from ⟨by decide,by decide⟩) ⟨by decide,by decide⟩);clear hs15 hA15 hg15 i0 hg14 b0 g1 L0;go_wp2_with fail;refine j0.z.mono ?_;rintro e w16 ⟨v16,rfl,hs16,hA16,hg16⟩;have t0:Sl ze (fun _=>True) w16 v16 (nR 3 1):=hs16;have b0:=za (hA16.take k0.z.1 (xj _ (by decide)) (show U8 9 from ⟨by decide,by decide⟩) (show I64 3 from ⟨by decide,by decide⟩) t0 BP (st:=tB3.1) rfl (r:=tB4) rB4);obtain ⟨A16,n16,c16,e16⟩:=hs16.shape;subst e16;have F0:=za hg16;clear hs16 t0 hA16 j0 l1 t1 hg16;go_wp2_with fail;refine b0.z.mono ?_;rintro e w17 ⟨v17,rfl,hs17,hA17,hg17⟩;have g0:zJ p0.1 p0.2 w16 w17:=hg17;have q0:=za hA17;have H0:Hid (Bk w17 gb1 61 #[.int .u8 9, .int .i64 2, .int .u8 1, .slice none 0 0]∧Bk w17 (gb1+1) 61 #[.int .u8 9, .int .i64 3, .int .u8 1, .slice none 0 0]):=za (by
    have h:=L1.z.1;exact ⟨(o0.z.1.grown F0.z (by simp)).keep2 g0 (by omega) (by omega),(o0.z.2.grown F0.z (by simp)).keep2 g0 (by omega) (by omega)⟩)
   obtain ⟨g5',o5',c5',e5,_,_,h1⟩:=q0.z.a5.atA (k:=3) (by simp);injection e5 with e5a e5b e5c
   injection e5a with e5a
   injection e5a with e5d e5e
   subst e5d e5e;have k2:w17.cell? ⟨g5,o5+3,none⟩=some (.pointer (some ⟨p3.1,0,none⟩)):=h1;have Y0:=za (XK v17 tB4.2 10 0 _ w17 hs17 (by rw [zai];decide));obtain ⟨A17,c17,e17,_,_⟩:=hs17.form;rw [zai] at e17;subst e17;have k1:=H0.z.1.rule;have s1:=q0.z.f.par.prule;have j0:=za (q0.z.nums 9 2 4 (show U8 9 from ⟨by decide,by decide⟩) (show I64 2 from ⟨by decide,by decide⟩) ⟨by decide,by decide⟩);clear hs17 hA17 hg17 g0 b0 K0 o0 F0 h1 e5b e5c;go_wp2_with fail;refine Y0.z.mono ?_;rintro e w18 ⟨v18,rfl,ew,hs18⟩;subst w18;obtain ⟨A18,c18,e18,_,_⟩:=hs18.form;rw [BV] at e18;subst e18;clear hs18 Y0;go_wp2_with fail;refine j0.z.mono ?_;rintro e w19 ⟨v19,rfl,hs19,hA19,hg19⟩;have s0:Sl ze (fun _=>True) w19 v19 (nR 2 4):=hs19;have b0:=za (hA19.take k0.z.2 (xj _ (by decide)) (show U8 9 from ⟨by decide,by decide⟩) (show I64 2 from ⟨by decide,by decide⟩) s0 BQ (st:=ASt.start) rfl (r:=tD1) rD1);obtain ⟨A19,n19,c19,e19⟩:=hs19.shape;subst e19;have w0:=za hg19;clear hs19 s0 hA19 j0 k1 s1 hg19 k2;go_wp2_with fail;refine b0.z.mono ?_;rintro e w20 ⟨v20,rfl,hs20,hA20,hg20⟩;have v0:zJ p3.1 p3.2 w19 w20:=hg20;have J0:=za hA20;have x0:Hid (Bk w20 (gb1+1) 61 #[.int .u8 9, .int .i64 3, .int .u8 1, .slice none 0 0]):=za (by
    have h:=L1.z.2;exact (H0.z.2.grown w0.z (by simp)).keep2 v0 (by omega) (by omega))
   obtain ⟨A20,c20,e20,_,_⟩:=hs20.form;rw [zaz] at e20;subst e20;have j1:=x0.z.rule;have r1:=J0.z.f.par.prule;have j0:=za (J0.z.nums 9 3 4 (show U8 9 from ⟨by decide,by decide⟩) (show I64 3 from ⟨by decide,by decide⟩) ⟨by decide,by decide⟩);clear hs20 hA20 hg20 v0 b0 q0 H0 w0;go_wp2_with fail;refine j0.z.mono ?_;rintro e w21 ⟨v21,rfl,hs21,hA21,hg21⟩;have r0:Sl ze (fun _=>True) w21 v21 (nR 3 4):=hs21;have b0:=za (hA21.take k0.z.2 (xj _ (by decide)) (show U8 9 from ⟨by decide,by decide⟩) (show I64 3 from ⟨by decide,by decide⟩) r0 BO (st:=tD1.1) rfl (r:=tD2) rD2);obtain ⟨A21,n21,c21,e21⟩:=hs21.shape;subst e21;clear hs21 r0 hA21 j0 j1 r1 hg21;go_wp2_with fail;refine b0.z.mono ?_;rintro e w22 ⟨v22,rfl,hs22,hA22,_⟩;have d0:=za hA22;obtain ⟨o,C0,O1⟩: ∃o,tD2.1.own=some o∧o.a.map (atP 11 0)=(DL5.a[3]?.getD []).map (atP 11 0):=by
    have h:=BS;cases ho:tD2.1.own with
    |none=>rw [ho] at h;cases h
    |some o=>rw [ho] at h;exact ⟨o,rfl,by injection h⟩
   obtain ⟨qE,qA,qS⟩:=d0.z.rm.av 3 k0.z.2;have qA':AvW (zw S) p3.1 p3.2 _ (EW 3) tD2.1 w22:=qA;have qS':Za (EW 3) tD2.1:=qS;have e0:=za (Qp (EW 3) tD2.1 p3.1 p3.2 _ o _ w22 qE qA' BU C0 (qS'.own o C0));have hQ:(EW 3).p.Q=11:=rfl;rw [hQ,O1] at e0;have H1:=za hs22;obtain ⟨g22,o22,c22,u22,e22,_,_,⟨E0,_,_⟩,_⟩:=hs22.atO (k:=3) (by rw [CS];decide);rw [CS] at e22;subst e22;have V0:tD2.2[3]'(by rw [CS];decide)=tD2.2[3]?.getD (0,0, []):=by rw [List.getElem?_eq_getElem (by rw [CS];decide)];rfl
   rw [V0,BT] at E0;have K2:=za E0;obtain ⟨gd,od,cd',vm,va,vb,ed,_,_,⟨_,M0,_⟩,_,sa,_⟩:=d0.z.f.ds.atDl (k:=0) (by decide);injection ed with ed1 ed2 ed3
   subst ed1;obtain ⟨ga,oa,ca,u3,ea,_,_,V1,s3⟩:=sa.atS (k:=3) (by decide);have ea:va= .slice (some ⟨ga,oa,none⟩) 4 ca:=ea;subst ea;have s3':Sl (zh zo) (fun g=>g< B) w22 u3 (DL5.a[3]?.getD []):=s3;obtain ⟨RW,D1⟩:=exq (DL5.a[3]?.getD []);have I1:Hid (RW.length≤1000∧ ∀c∈RW,c.length≤1000):=za (by rw [D1];decide);rw [←D1] at e0 s3';obtain ⟨PT,X0⟩:=exq (RW.map (atP 11 0));have G2:Hid (PT.length≤100000):=za (by rw [X0,lLm];have:=I1.z.1;omega);rw [←X0] at e0;have O2:Hid (∀W,w22.grownBy W none→Calls prog 38 #[u3, .int .u64 0, .int .u64 11] W (zY zo (fun g=>W.heap.size≤g) W PT)):=za (fun W hW=>by
    rw [X0];exact VG u3 RW 0 11 _ W (s3'.kept hW) ⟨by decide,by decide⟩ I1.z.1 I1.z.2)
   obtain ⟨_,⟨⟨qc,qd,qo,T0,_⟩,_,_⟩,_⟩:=d0.z.rm.av 0 k0.z.1;have c0:Bk w22 p0.1 125 (zB (EW 0) qc qd qo p0.2 tB4.1.done):=T0;rw [BW] at c0;have b1:Hid (∀W,w22.grownBy W none→Calls prog 31 #[.pointer (some ⟨p0.1,0,none⟩)] W fun e w'=>e= .returned (.bool true)∧w'=W):=za (fun W hW=>Vm (EW 0) p0.1 p0.2 qc qd qo true W (c0.grown hW (by simp)));have d1:Hid (∀W,w22.grownBy W none→W.cell? ⟨g22,o22+9,none⟩=some (.int .u8 10)∧W.cell? ⟨gd,od+1,none⟩=some (.slice (some ⟨ga,oa,none⟩) 4 ca)∧W.cell? ⟨ga,oa+3,none⟩=some u3∧ ∀o,W.cell? ⟨gp,o,none⟩=(p4.cells:Array Value)[o]?):=za (fun W hW=>⟨cell_kept E0 hW (by simp),by have:=cell_kept M0 hW (by simp);simpa using this,cell_kept V1 hW (by simp),(d0.z.f.par.grown hW (by simp)).prule⟩);have M2:Hid (w.grownBy w22 none):=za d0.z.f.g;obtain ⟨A3,n3,c3,e3⟩:=s3'.shape;subst e3;obtain ⟨nd',Q1⟩:=exq ( [DL5].length);have z1:nd'=1:=Q1;subst z1;clear hs22 hA22 E0 V1 M0 s3 s3' sa T0 c0 b0 qA qA' qS qS' D1 X0 C0 O1 V0 H1 K2 J0 x0 d0 hQ Q1;go_wp2_with fail;refine e0.z.mono ?_;rintro e w23 ⟨v1,v2,rfl,hs1,hs2,hg23⟩;have B2:=za hs1;have J1:=za hg23;obtain ⟨A1,n1,c1,e1⟩:=hs1.shape;subst e1;obtain ⟨A2,n2,c2,e2⟩:=hs2.shape;subst e2;clear hs1 hs2 hg23 e0;go_upto_region 35 with (fail)
   have A0:Hid (w22.grownBy w23.drew none):=za (J1.z.trans (zb w23 1));have F2:Hid (Sl zo (fun g=>w22.heap.size≤g) w23.drew (.slice A1 n1 c1) PT):=za (B2.z.kept (zb w23 1));refine ZR 31 ?_;refine mP0 (.slice (some ⟨g22,o22,none⟩) 4 c22) ?_;refine mP1 (.int .i64 4) 0 146 ?_;refine mP1 (.bool true) 1 147 ?_;refine mP1 (.bool true) 2 148 ?_;refine ZO (.slice (some ⟨g22,o22,none⟩) 4 c22) 3 149 ?_;refine xh (.pointer (some ⟨g22,o22+9,none⟩)) 3 149 4 150 ?_;refine xh (.pointer (some ⟨g22,o22+9,none⟩)) 3 149 5 151 ?_;refine Xh (.int .u8 10) 3 149 6 152 (fun w' hw' K hK=> ?_) ?_
   ·obtain ⟨hm,M0,C1,q1⟩:=d1.z w' (A0.z.trans hw');go_simp;exact hK _ rfl rfl
   refine xh (.bool true) 3 149 7 153 ?_;refine mP2 (.bool true) 3 149 8 154 ?_;refine mP1 (.bool true) 9 155 ?_;refine ZO (.bool true) 10 156 ?_;refine mP2 (.bool true) 10 156 11 157 ?_;refine mP1 (.bool true) 12 158 ?_;refine ZO (.slice A1 n1 c1) 13 159 ?_;refine ZO (.slice (some ⟨gd,od,none⟩) 1 cd') 13 159 ?_;refine xh (.pointer (some ⟨gd,od,none⟩)) 13 159 15 161 ?_;refine xh (.pointer (some ⟨gd,od+1,none⟩)) 13 159 16 162 ?_;refine Xh (.slice (some ⟨ga,oa,none⟩) 4 ca) 13 159 17 163 (fun w' hw' K hK=> ?_) ?_
   ·obtain ⟨hm,M0,C1,q1⟩:=d1.z w' (A0.z.trans hw');go_simp;exact hK _ rfl rfl
   refine xh (.pointer (some ⟨ga,oa+3,none⟩)) 13 159 18 164 ?_;refine Xh (.slice A3 n3 c3) 13 159 19 165 (fun w' hw' K hK=> ?_) ?_
   ·obtain ⟨hm,M0,C1,q1⟩:=d1.z w' (A0.z.trans hw');go_simp;exact hK _ rfl rfl
   refine ZO (.pointer (some ⟨gp,1,none⟩)) 13 159 ?_;refine Xh (.int .u64 11) 13 159 21 167 (fun w' hw' K hK=> ?_) ?_
   ·obtain ⟨hm,M0,C1,q1⟩:=d1.z w' (A0.z.trans hw');go_simp;exact hK _ rfl rfl
   refine BJ (Pv.sl zo (fun g=>w22.heap.size≤g) PT) 13 159 20 166 22 168 (fun w' hw' K hK=> ?_) ?_
   ·go_simp;refine (O2.z w' (A0.z.trans hw')).mono ?_;rintro e w3' ⟨v,rfl,hs3,hg3⟩;exact hK _ _ rfl (hs3.more fun g _ hg=>nLT (A0.z.trans hw').size hg) hg3
   refine mS (.bool true) [(13,159),(14,160),(23,169)] (fun w' hw'=>pQ (pQ (fun x169 n0=>kE fun K hK=> ?_))) ?_
   ·have n0:Sl zo (fun g=>w22.heap.size≤g) w' x169 PT:=n0;obtain ⟨A169,n169,c169,e169⟩:=n0.shape;subst e169;go_simp;refine (Pc _ _ PT _ _ w' (F2.z.kept hw') n0 G2.z).mono ?_;rintro e w3' ⟨rfl,hg3⟩;exact hK _ _ rfl rfl hg3
   refine mP2 (.bool true) 13 159 24 170 ?_;refine mP1 (.bool true) 25 171 ?_;refine ZO (.pointer (some ⟨p0.1,0,none⟩)) 26 172 ?_;refine Xh (.bool true) 26 172 27 173 (fun w' hw' K hK=> ?_) ?_
   ·go_simp;refine (b1.z w' (A0.z.trans hw')).mono ?_;rintro e w3' ⟨rfl,ew⟩;subst w3';exact hK _ rfl rfl
   refine mP2 (.bool true) 26 172 28 174 ?_;refine mP1 (.bool true) 29 175 ?_;intro w24 P0
   iterate 30 (refine pD ?_;intro _)
   intro y30 k30;have e30:y30= .bool true:=k30;subst e30;have N2:Hid (w.grownBy w24 none):=za (M2.z.trans (A0.z.trans P0));clear k30 P0;refine wpList_nil ?_;simp only [Act.put,sAa,sAb,sAc];go_wp2_with fail;go_ret;exact ⟨rfl,N2.z⟩
  ·have q2:i< 4:=by omega
   have o2:(i:Int)+1≤4:=by omega
   have P2:(0:Int)≤(i:Int):=iNn i;obtain ⟨S,L,hl,hm⟩:=HX.z;have HE:=za (BZ i q2);have d2:=za (MD (EW i) (.slice Ac nc cc) _ wr (ZY false) (show I64 2 from ⟨by decide,by decide⟩) (show I64 ((i:Int)+1) from ⟨by omega,by omega⟩) hm.f.cm (X1.z.kept hm.f.g));have hp:=hm.f.par.prule;have HL:=za hl;have HM:=za hm;clear HX hl hm;go_wp2_with fail;refine d2.z.mono ?_;rintro e w4 ⟨hg4,hnew⟩;rw [JD HE.z,if_pos rfl] at hnew;obtain ⟨gA,gM,he,hA,hM,Y1⟩:=hnew;subst he;have Z0:=za (HM.z.new hg4 hA hM (by rw [HL.z];exact HE.z) (by rw [HL.z];exact Y1) (by rw [HL.z];exact NM i));have I0:Hid (Acc Hx B 53 (fun _=>True) w4 u5 (L.map (·.1))):=za (Z0.z.a5.more fun _ _ _=>trivial);have y2:Hid (B≤w4.heap.size):=za Z0.z.f.sz;have O0:Hid (((L.map (·.1)).length+1)*8≤140737488355328):=za (by rw [lLm,HL.z];omega);obtain ⟨xs,i1⟩:=exq (L.map (·.1));have E1:=za i1;rw [←i1] at Z0 I0 O0;clear hp hg4 Y1 hA hM i1;go_wp2_with (at_builtin;refine zW rfl (.tmp 42) (.tmp 44) rfl (E:=Hx) (y:=gA) Ee I0.z rfl rfl rfl O0.z y2.z (fun _ _=>trivial) ?_);intro v5 w5 z0 U1 S1;obtain ⟨S5,Z1⟩:=Z0.z.push5 z0 U1 S1;have N0:=za Z1;clear z0 U1 S1 Z1 Z0 HM d2 I0 O0;have N1:=N0.z.f.par.prule;rcases Nat.lt_or_ge i 3 with hi3|hi3
   ·have r2:(i:Int)+1< 4:=by omega
    have f2:=za (YY p4 7 0 1 (.slice none 0 0) (.slice Ad nd cd) [] [DL5] ((i:Int)+1) (fun _=>False) _ w5 (ZY false) ⟨by decide,by decide⟩ ⟨by decide,by decide⟩ ⟨by decide,by decide⟩ ⟨by decide,by decide⟩ (Sl.nil _ _ _) N0.z.f.ds (fun d hd=>by rw [List.mem_singleton.1 hd];exact Ef) (by decide) ⟨by omega,o2⟩);go_wp2_with fail;refine f2.z.mono ?_;rintro e w6 ⟨v6,rfl,hs6,hg6⟩;have P1:(nD ((i:Int)+1)).length≤100000:=Bu i hi3;have S0:Sl ze (fun _=>True) w6 v6 (nD ((i:Int)+1)):=hs6.more fun _ _ _=>trivial
    have b0:=za ((N0.z.kept hg6).take (by rw [HL.z] at *;exact xj _ (by omega)) (show U8 7 from ⟨by decide,by decide⟩) (show I64 0 from ⟨by decide,by decide⟩) S0 P1 (st:=ASt.start) (by rw [HL.z];exact NM i) (r:=tA ((i:Int)+1)) (by rw [HL.z];rfl));obtain ⟨A6,n6,c6,rfl⟩:=hs6.shape;clear hs6 S0 hg6 N1 N0 f2 P1;go_wp2_with fail;refine b0.z.mono ?_;rintro e w7 ⟨v7,rfl,hs7,hM7⟩;have U0:=Cc i hi3;obtain ⟨r,hr⟩:=exq ((tA ((i:Int)+1)).2);rw [←hr] at hs7 U0;have D2:=za hr;have f0:=za hM7;have z2:=za hs7;have W1:=za (XK v7 r 8 4 _ w7 hs7 (by rw [U0.1];decide));obtain ⟨A7,c7,e7,_,_⟩:=hs7.form;rw [U0.1] at e7;have H2:=za U0;subst e7;clear hs7 hM7 hr b0 U0;go_wp2_with fail;refine W1.z.mono ?_;rintro e w8 ⟨v8,rfl,ew,hs8⟩;subst w8;have B0:=List.length_pos_iff.2 H2.z.2;obtain ⟨g8,o8,c8,e8,_⟩:=hs8.atU B0;subst e8;clear hs8 W1;have C2:Hid ((zh YG).rep (fun g=>((∀k (h:k< (L++ [(gA,gM)]).length),g≠(L++ [(gA,gM)])[k].1∧g≠(L++ [(gA,gM)])[k].2)∧v5.ownBlock≠some g)∧some g≠u6.ownBlock) w7 [.slice A7 3 c7] r):=za ⟨_,rfl,z2.z.more fun g _ hg=>⟨⟨fun k hk=>⟨fun e=>hg (by rw [e];exact (f0.z.rm.sub k hk).1),fun e=>hg (by rw [e];exact (f0.z.rm.sub k hk).2)⟩,fun e=>hg (f0.z.o5 g e)⟩,fun e=>hg (f0.z.o6 g e.symm)⟩⟩;have i2:=za f0.z.a6;have O0:Hid (((FX i).length+1)*24≤140737488355328):=za (by unfold FX;rw [lLm,List.length_range];omega);have G1:Hid (B≤w7.heap.size):=za f0.z.f.sz;have J2:Hid (∀g,w7.heap.size≤g→(∀k (h:k< (L++ [(gA,gM)]).length),g≠(L++ [(gA,gM)])[k].1∧g≠(L++ [(gA,gM)])[k].2)∧v5.ownBlock≠some g):=za (fun g hg=>by
     have hf:=f0.z.rm.free hg;exact ⟨fun k hk=>⟨fun e=>hf (by rw [e];exact (f0.z.rm.sub k hk).1),fun e=>hf (by rw [e];exact (f0.z.rm.sub k hk).2)⟩,fun e=>hf (f0.z.o5 g e)⟩)
    obtain ⟨oj,y1⟩:=exq (FX i);have I2:=za y1;rw [←y1] at i2 O0 f0;clear y1;have s2:(binOp .eql 31 (.slice (some ⟨g8,o8,none⟩) (toI 8 4 r).length c8) (.slice none 0 0)).run prog w7= .ok (.bool false) w7:=Mn w7 (some ⟨g8,o8,none⟩) _ _;go_wp2_with (at_builtin;refine zW rfl (.tmp 63) (.tmp 65) rfl (E:=zh YG) (y:=r) Dk i2.z rfl rfl C2.z O0.z G1.z J2.z ?_);intro v9 w9 y0 T1 R1;obtain ⟨S9,F1⟩:=f0.z.push6 (y0.more fun g _ hX=>⟨fun k hk=>hX.1 k (by simpa using hk),hX.2⟩) T1 R1;have G0:Hid (AwL w gp B (.slice Ad nd cd) (.slice Ac nc cc) (i+1) v5 v9 w9):=za (by
     refine ⟨S9,L++ [(gA,gM)],by rw [lLa,HL.z];rfl, ?_⟩;rw [Jw i hi3, ←D2.z, ←I2.z,lMa, ←E1.z,Gz i hi3,show 3*(i+1)=3*i+3 from rfl, ←HL.z];rw [←HL.z] at F1;exact F1)
    clear y0 T1 R1 F1;go_wp2_with fail;go_roundg (gk - 1)
    case measure=>omega
    case rel=>exact ⟨i+1,by omega,by go_num,G0⟩
   ·obtain rfl:i=3:=by omega
    have G0:Hid (AwL w gp B (.slice Ad nd cd) (.slice Ac nc cc) 4 v5 u6 w5):=za (by
     refine ⟨S5,L++ [(gA,gM)],by rw [lLa,HL.z];rfl, ?_⟩;have h:=N0.z;rw [lMa, ←E1.z];have e1:stJ 4=stJ 3:=by
      funext k
      unfold stJ;by_cases hk:k< 3
      ·rw [if_pos ⟨by omega,hk⟩,if_pos ⟨hk,hk⟩]
      ·rw [if_neg (fun e=>hk e.2),if_neg (fun e=>hk e.2)]
     rw [e1];exact ⟨h.rm.up (by decide),h.f,h.bd,h.a5,h.o5,h.a6,h.o6⟩)
    clear N1 N0;go_wp2_with fail;go_roundg (gk - 1)
    case measure=>omega
    case rel=>exact ⟨4,by omega,by go_num,G0⟩
end
section
open Go Go.RowKit Go.Shelf Go.Maps
theorem XY{α:Type}{c:Nat}: ∀{l:List (List α)},(∀x∈l,x.length≤c)→l.flatten.length≤l.length*c
 | [],_=>by simp
 |x::l,h=>by
  have h1:=XY (l:=l) fun y hy=>h y (mCm _ hy)
  have h2:=h x mCs;rw [List.flatten_cons,lLa,List.length_cons,Nat.succ_mul];omega
theorem RC{m:List (List (List Int))}{a b:List (List (Int×Int))}(hm:m.length≤10∧ ∀x∈m,x.length≤3∧ ∀y∈x,y.length≤3)(ha:a.length≤10∧ ∀c∈a,c.length≤3)(hb:b.length≤10∧ ∀c∈b,c.length≤3):(Zi m a b).length≤300:=by
 have hm1:m.flatten.length≤m.length*3:=XY fun f hf=>(hm.2 f hf).1
 have hm2:m.flatten.flatten.length≤m.flatten.length*3:=XY fun r hr=>by
  obtain ⟨f,hf,hr⟩:=List.mem_flatten.1 hr;exact (hm.2 f hf).2 r hr
 have ha2:a.flatten.length≤a.length*3:=XY ha.2;have hb2:b.flatten.length≤b.length*3:=XY hb.2;have h1:=hm.1;have h2:=ha.1;have h3:=hb.1;simp only [Zi,List.flatten_cons,List.flatten_nil,List.append_nil,List.length_append,YX];omega
theorem Ur{l:List (Int×Int)}(h:l.length≤10):(zA l).length≤10∧ ∀c∈zA l,c.length≤3:=by
 refine ⟨by simpa [zA] using h,fun c hc=> ?_⟩;obtain ⟨y,_,rfl⟩:=List.mem_map.1 hc;simp
theorem JF{p:Par}{kind f o me:Int}{ns:List Int}{ds:List Dl}{N:Nat}(hn:ns.length≤3000)(hd: ∀d∈ds,CL N d):(Uh p kind f o ns ds me).length≤100000:=by
 have hk:((Nf ds o).m.length≤10∧ ∀x∈(Nf ds o).m,x.length≤3∧ ∀y∈x,y.length≤3)∧(∀r∈(Nf ds o).a,r.length≤10∧ ∀c∈r,c.length≤3)∧ ∀r∈(Nf ds o).b,r.length≤10∧ ∀c∈r,c.length≤3:=by
  unfold Nf;cases e:ds[((o - 1)%(ds.length:Int)).toNat]? with
  |none=>simp
  |some d=>
   have h:=hd d (List.mem_of_getElem? e);exact ⟨h.m,h.a.2,h.b.2⟩
 obtain ⟨hm,ha,hb⟩:=hk;have hg: ∀{l:List (List (List (Int×Int)))} (i:Nat),(∀r∈l,r.length≤10∧ ∀c∈r,c.length≤3)→(l[i]?.getD []).length≤10∧ ∀c∈l[i]?.getD [],c.length≤3:=fun {l} i h=>by
  cases e:l[i]? with
  |none=>simp
  |some r=>exact h r (List.mem_of_getElem? e)
 unfold Uh;split
 ·omega
 ·split
  ·have:=RC hm (hg (me - 1).toNat ha) (hg (me - 1).toNat hb)
   omega
  ·have h1:=(hg (Xi p.N f - 1).toNat ha).1;have h2:=(hg (Xi p.N f - 1).toNat hb).1
   have:=RC hm (Ur (l:=((Nf ds o).a[(Xi p.N f - 1).toNat]?.getD []).map (atP p.Q me)) (by rw [lLm];exact h1)) (Ur (l:=((Nf ds o).b[(Xi p.N f - 1).toNat]?.getD []).map (atP p.Q me)) (by rw [lLm];exact h2))
   omega
theorem Sl.nn{X:Nat→Prop}{w:World}{v:Value}{xs:List Int}(h:Sl ze X w v xs): ∀y∈xs,0≤y:=fun y hy=>by
 obtain ⟨k,hk,rfl⟩:=List.mem_iff_getElem.1 hy;obtain ⟨_,_,_,_,_,_,_,hu⟩:=h.atU hk;exact hu.1
def Xe(two:Bool)(d seed:Int):List Dl:=(List.range 2).map (dlD (p19 two) seed d)
theorem Qc(two:Bool)(d seed:Int): ∀x∈Xe two d seed,CL (p19 two).N.toNat x:=fun x hx=>by
 obtain ⟨j,_,rfl⟩:=List.mem_map.1 hx;exact Cr (Xs two) (ZY two).Q seed d j
theorem n19{two:Bool}{x:Int}(h:1≤x∧x≤(p19 two).N):I64 x:=by
 have:(p19 two).N≤7:=by cases two<;>decide
 exact ⟨by omega,by omega⟩
end
section
open Go
structure RGo (R:Rmm) (all:Bool) (sts:Int→ASt) (way:List yB):Prop where
 inv:Uc R sts way
 mu:R.mu sts way≤84
 al:all=true→Nv R sts way (fun _=>False)
def ZD(way:List yB)(k:Nat):List yB:=way.take k++way.drop (k+1)
theorem Nh{way:List yB}{k:Nat}(hk:k< way.length):(ZD way k).length+1=way.length:=by
 unfold ZD;rw [lLa,lLt,List.length_drop];omega
theorem IH{way:List yB}{k:Nat}: ∀y∈ZD way k,y∈way:=fun y hy=>by
 rcases List.mem_append.1 hy with h|h
 ·exact mMt h
 ·exact List.mem_of_mem_drop h
theorem Cw{way:List yB}{k:Nat}(hk:k< way.length): ∀y∈way,y∈ZD way k∨y=way[k]:=fun y hy=>by
 obtain ⟨i,hi,rfl⟩:=List.mem_iff_getElem.1 hy;rcases Nat.lt_trichotomy i k with h|h|h
 ·left;refine mAl _ (List.mem_iff_getElem.2 ⟨i,by rw [lLt];omega, ?_⟩);rw [List.getElem_take]
 ·subst h;exact .inr rfl
 ·left;refine mAr _ (List.mem_iff_getElem.2 ⟨i - (k+1),by rw [List.length_drop];omega, ?_⟩);rw [List.getElem_drop]
  congr 1
  omega
section
variable {R:Rmm} {all:Bool} {sts:Int→ASt} {way:List yB}
theorem RGo.start(hR:R.ok)(all:Bool):RGo R all (fun _=>ASt.start) []:=by
 obtain ⟨_,_,_,hN1,hN2,_,hT1,_⟩:=zt hR.may;refine ⟨Uc.start R, ?_,fun _=>Nv.start hR⟩;rw [Rmm.mu_start (by omega)];have h:R.p.N*(2*(R.p.N - 1))≤7*12:=Int.mul_le_mul (by omega) (by omega) (by omega) (by omega);omega
theorem RGo.tell(hR:R.ok)(h:RGo R all sts way){m:yB}(hm:Vo R sts m):RGo R all (R.tell sts way m).1 (R.tell sts way m).2:=
 ⟨h.inv.tell hR hm,Int.le_trans (Rmm.mu_tell hR h.inv hm) h.mu,fun e=>Nv.tell hR h.inv ((h.al e).less fun y hy=>hy.elim .inl (fun f=>f.elim)) hm⟩
theorem Ea{k:Nat}(hk:k< way.length):R.mu sts (ZD way k)+1=R.mu sts way:=by
 have:=Nh hk
 unfold Rmm.mu;omega
theorem RGo.lose(h:RGo R false sts way){k:Nat}(hk:k< way.length):RGo R false sts (ZD way k):=
 ⟨h.inv.less IH,by have:=Ea (R:=R) (sts:=sts) hk;have:=h.mu;omega,fun e=>by cases e⟩
theorem RGo.mail(h:RGo R all sts way){k:Nat}(hk:k< way.length):Vo R sts way[k]:=(h.inv.way _ (lGm hk)).1
theorem RGo.give(hR:R.ok)(h:RGo R all sts way){k:Nat}(hk:k< way.length):RGo R all (R.tell sts (ZD way k) way[k]).1 (R.tell sts (ZD way k) way[k]).2∧R.mu (R.tell sts (ZD way k) way[k]).1 (R.tell sts (ZD way k) way[k]).2+1≤R.mu sts way:=by
 have hi:=h.inv.less (way':=ZD way k) IH;have hm:=h.mail hk;have h1:=Rmm.mu_tell hR hi hm;have h2:=Ea (R:=R) (sts:=sts) hk;have h3:=h.mu;exact ⟨⟨hi.tell hR hm,by omega,fun e=>Nv.tell hR hi ((h.al e).less fun y hy=>by
  rcases hy with hy|hy
  ·exact Cw hk y hy
  ·exact hy.elim) hm⟩,by omega⟩
theorem OV{tq:Int}{l:List Int}(hl: ∀y∈l,0≤y):Vo R sts (0,tq,7,l):=⟨hl,fun e=>by simp at e,fun e=>by simp at e⟩
theorem JQ{fr tq k:Int}{l:List Int}(hf:R.hon fr=false)(hl: ∀y∈l,0≤y):Vo R sts (fr,tq,k,l):=⟨hl,fun _ e=>(by have:=e.2;simp only [hf] at this;cases this),fun _ e=>(by have:=e.2;simp only [hf] at this;cases this)⟩
theorem Me{E:zv}(hm:Zk E.p=true){x:zu}(h:Ym E x)(i:Int):(zO E x i).length≤300:=by
 obtain ⟨e1,e2,e3,e4,e5⟩:=FM hm;have hs:(Zq E.p).toNat≤10:=by omega
 have ht:(E.p.T+1).toNat≤3:=by omega
 have ho:=h.ok;have hm9:x.m.length≤10∧ ∀f∈x.m,f.length≤3∧ ∀r∈f,r.length≤3:=by
  obtain ⟨m1,m2⟩:=ho.m;generalize (Zq E.p).toNat=s at *;generalize (E.p.T+1).toNat=t at *;refine ⟨by omega,fun f hf=> ?_⟩;obtain ⟨f1,f2⟩:=m2 f hf;refine ⟨by omega,fun r hr=> ?_⟩
  have:=f2 r hr
  omega
 have ha9:(x.a.map (atP E.p.Q i)).length≤10:=by
  have:=ho.a.1
  rw [lLm];omega
 have hb9:(x.b.map (atP E.p.Q i)).length≤10:=by
  have:=ho.b.1
  rw [lLm];omega
 exact RC hm9 (Ur ha9) (Ur hb9)
theorem Uc.way_le(hR:R.ok)(h:Uc R sts way): ∀y∈way,y.2.2.2.length≤300:=fun y hy=>by
 obtain ⟨h1,h2,h3,_⟩:=h.way y hy;rcases h3 with h3|h3
 ·obtain ⟨d,d1,d2⟩:=h1.echo h3 h2;rw [d2];exact Me (E:=R.E y.1) hR.may ((h.good _ h2).dealt d d1) _
 ·obtain ⟨d,d1,d2⟩:=h1.ready h3 h2;rw [d2];exact Me (E:=R.E y.1) hR.may ((h.good _ h2).own d d1) _
theorem RGo.way_len(hR:R.ok)(h:RGo R all sts way):way.length≤84:=by
 obtain ⟨_,_,_,hN1,hN2,_⟩:=zt hR.may
 have:=Rmm.mu_nonneg (R:=R) (by omega) sts way
 have:=h.mu
 omega
theorem Uc.first(hR:R.ok)(h:Uc R sts way): ∃M:List (List (List Int)), ∀j o,R.H j→(sts j).done=true→(sts j).own=some o→o.m=M:=by
 by_cases hx: ∃j o,R.H j∧(sts j).done=true∧(sts j).own=some o
 ·obtain ⟨j,o,h1,h2,h3⟩:=hx;exact ⟨o.m,fun k u k1 _ k3=>h.same hR k1 h1 k3 h3⟩
 ·exact ⟨[],fun j o h1 h2 h3=>absurd ⟨j,o,h1,h2,h3⟩ hx⟩
theorem Uc.told(hR:R.ok)(h:Uc R sts way){j:Int}(hj:R.H j)(hd:(sts j).done=true): ∃o,(sts j).own=some o∧Ym (R.E j) o∧yY R.p (yy o.m)=true∧YQ R.p (yy o.m) j (o.a.map (atP R.p.Q 0))=true:=by
 have g:=h.good j hj;cases e:(sts j).own with
 |none=>exact absurd e (g.done hd)
 |some o=>
  have hg:=g.own o e;have h1:=hj.1;exact ⟨o,rfl,hg,Na (E:=R.E j) hR.may hg.ok hg.bond,Ff (E:=R.E j) hR.may (show 0≤j by omega) hg⟩
end
end
section
open Go Go.RowKit Go.Shelf Go.Maps
theorem KH{E:zv}(hE:E.ok)(st:ASt)(k i:Int)(l:List Int):(zV E st k i l).2.length≤1000:=by
 obtain ⟨_,_,_,hN1,hN2,_⟩:=zt hE.may;unfold zV;split
 ·split
  ·simp
  ·unfold Zg;dsimp only;rw [lLa];have h1:=XA E YE (zT E l).1;have h2:=XB hE {st with dealt:=some (zT E l).1} YE E.me (zO E (zT E l).1 E.me);omega
 ·split
  ·have:=XB hE st k i l
   omega
  ·simp
end
section
open Go.ChangeShapes Go.WideShapes Go.RowKit
theorem Nn:Tryz.prog.cellsOf 31=1:=by kernel_rfl
theorem LU:Tryz.prog.cellsOf 3=1:=by kernel_rfl
theorem PQ:Tryz.prog.cellsOf 5=1:=by kernel_rfl
theorem Gf{a:Int}(h:(Lit.int .u8 a).wf=true):U8 a:=by
 have:=bounds_u8 h
 unfold U8;omega
end
end Go.Proofs.YtkdfjkdphdfclaaGreatDoor
