/- Part 19 of the proof of a card of AvssOne, AvssAll. -/
import Derived.Test.YtkdfjkdphdfclaaGreatDoorW18
set_option maxRecDepth 100000
set_option maxHeartbeats 16000000
set_option linter.unusedVariables false
set_option linter.unusedSimpArgs false
namespace Go.Proofs.YtkdfjkdphdfclaaGreatDoor
open Tryz
section
open Go Go.RowKit Go.Shelf Go.Maps
def PC:Enc yB where
 size:=4
 pos:=by decide
 rep:=fun X w cs d=> ∃v,cs= [.int .i64 d.1, .int .i64 d.2.1, .int .u8 d.2.2.1,v]∧I64 d.1∧I64 d.2.1∧U8 d.2.2.1∧Sl ze X w v d.2.2.2
 len:=fun h=>by obtain ⟨v,rfl,_⟩:=h;rfl
 ones:=fun h u hu=>by
  obtain ⟨v,rfl,_,_,_,A,c,rfl,_⟩:=h;simp at hu;rcases hu with rfl|rfl|rfl|rfl<;>rfl
 keep:=fun h hg hX=>by obtain ⟨v,e,i,j,k,h⟩:=h;exact ⟨v,e,i,j,k,h.keep hg hX⟩
 more:=fun h hX=>by obtain ⟨v,e,i,j,k,h⟩:=h;exact ⟨v,e,i,j,k,h.more hX⟩
 keepc:=fun h hg hr=>by obtain ⟨v,e,i,j,k,h⟩:=h;exact ⟨v,e,i,j,k,h.keepc hg hr⟩
theorem Sl.atM{X:Nat→Prop}{w:World}{v:Value}{xs:List yB}(h:Sl PC X w v xs){k:Nat}(hk:k< xs.length):
  ∃g o c u,v= .slice (some ⟨g,o,none⟩) xs.length c∧g< w.heap.size∧X g∧(w.cell? ⟨g,o+k*4,none⟩=some (.int .i64 xs[k].1)∧w.cell? ⟨g,o+k*4+1,none⟩=some (.int .i64 xs[k].2.1)∧w.cell? ⟨g,o+k*4+2,none⟩=some (.int .u8 xs[k].2.2.1)∧w.cell? ⟨g,o+k*4+3,none⟩=some u)∧(I64 xs[k].1∧I64 xs[k].2.1∧U8 xs[k].2.2.1)∧Sl ze X w u xs[k].2.2.2:=by
 obtain ⟨g,o,c,cs,e,hg,hX,⟨u,rfl,hi,hj,hk',hu⟩,hc⟩:=h.at hk;exact ⟨g,o,c,u,e,hg,hX,⟨hc 0 _ rfl,hc 1 _ rfl,hc 2 _ rfl,hc 3 _ rfl⟩,⟨hi,hj,hk'⟩,hu⟩
abbrev Ts:=Int×Int×Int×Int×Int×Int×List Int
def Yc:Enc Ts where
 size:=7
 pos:=by decide
 rep:=fun X w cs d=> ∃v,cs= [.int .u8 d.1, .int .i64 d.2.1, .int .i64 d.2.2.1, .int .i64 d.2.2.2.1, .int .u8 d.2.2.2.2.1, .int .u8 d.2.2.2.2.2.1,v]∧(U8 d.1∧I64 d.2.1∧I64 d.2.2.1∧I64 d.2.2.2.1∧U8 d.2.2.2.2.1∧U8 d.2.2.2.2.2.1)∧Sl ze X w v d.2.2.2.2.2.2
 len:=fun h=>by obtain ⟨v,rfl,_⟩:=h;rfl
 ones:=fun h u hu=>by
  obtain ⟨v,rfl,_,A,c,rfl,_⟩:=h;simp at hu;rcases hu with rfl|rfl|rfl|rfl|rfl|rfl|rfl<;>rfl
 keep:=fun h hg hX=>by obtain ⟨v,e,i,h⟩:=h;exact ⟨v,e,i,h.keep hg hX⟩
 more:=fun h hX=>by obtain ⟨v,e,i,h⟩:=h;exact ⟨v,e,i,h.more hX⟩
 keepc:=fun h hg hr=>by obtain ⟨v,e,i,h⟩:=h;exact ⟨v,e,i,h.keepc hg hr⟩
theorem Sl.atAct{X:Nat→Prop}{w:World}{v:Value}{xs:List Ts}(h:Sl Yc X w v xs){k:Nat}(hk:k< xs.length):
  ∃g o c cs,v= .slice (some ⟨g,o,none⟩) xs.length c∧g< w.heap.size∧X g∧Yc.rep X w cs xs[k]∧ ∀j u,cs[j]? =some u→w.cell? ⟨g,o+k*7+j,none⟩=some u:=by
 obtain ⟨g,o,c,cs,e,hg,hX,h1,hc⟩:=h.at hk;exact ⟨g,o,c,cs,e,hg,hX,h1,hc⟩
def ZP:Enc (Option Nat) where
 size:=1
 pos:=by decide
 rep:=fun _ _ cs g=>cs= [.pointer (g.map fun b=>⟨b,0,none⟩)]
 len:=fun h=>by rw [h];rfl
 ones:=fun h u hu=>by rw [h] at hu;simp at hu;subst hu;rfl
 keep:=fun h _ _=>h
 more:=fun h _=>h
 keepc:=fun h _ _=>h
theorem Sl.atAO{X:Nat→Prop}{w:World}{v:Value}{xs:List (Option Nat)}(h:Sl ZP X w v xs){k:Nat}(hk:k< xs.length):
  ∃g o c,v= .slice (some ⟨g,o,none⟩) xs.length c∧g< w.heap.size∧X g∧w.cell? ⟨g,o+k,none⟩=some (.pointer (xs[k].map fun b=>⟨b,0,none⟩)):=by
 obtain ⟨g,o,c,cs,e,hg,hX,rfl,hc⟩:=h.at hk;have h0:=hc 0 _ rfl;rw [show ZP.size=1 from rfl,Nat.mul_one] at h0;exact ⟨g,o,c,e,hg,hX,h0⟩
theorem Id:(Tryz.prog.info? 109).map (fun i=>(i.zero,i.size,i.bytes))=some (some (.agg #[.int .i64 0, .int .i64 0, .int .u8 0, .slice none 0 0]),4,48):=by kernel_rfl
theorem It:zQ prog 41 109 4 48:=zQ.mk' (by decide) Tryz.underlying41 Id rfl
abbrev zM(p:Par)(va vw vd vc:Value):Array Value:= #[.int .u64 p.P, .int .u64 p.Q, .int .u64 p.G, .int .u64 p.H, .int .i64 p.Nodes, .int .i64 p.N, .int .i64 p.T, .int .i64 p.K, .int .i64 p.D, .int .i64 p.R, .int .i64 p.M, .int .i64 p.X,va,vw,vd,vc]
def zU(R:Rmm)(L:List (Nat×Nat)):List (Option Nat):=(List.range L.length).map fun k:Nat=>if R.hon ((k:Int)+1)=true then some (L[k]?.getD (0,0)).1 else none
theorem yP(R:Rmm)(L:List (Nat×Nat)):(zU R L).length=L.length:=by simp [zU]
theorem xt(R:Rmm)(L:List (Nat×Nat)){k:Nat}(hk:k< L.length)(h:k< (zU R L).length):(zU R L)[k]=if R.hon ((k:Int)+1)=true then some L[k].1 else none:=by
 simp [zU,List.getElem?_eq_getElem hk]
def tBl(g:Nat)(L:List (Nat×Nat)):List Nat:=g::(L.map (·.1)++L.map (·.2))
theorem OB{g:Nat}{L:List (Nat×Nat)}{k:Nat}(hk:k< L.length):L[k].1∈tBl g L∧L[k].2∈tBl g L:=⟨mCm _ (mAl _ (List.mem_map.2 ⟨_,lGm hk,rfl⟩)),mCm _ (mAr _ (List.mem_map.2 ⟨_,lGm hk,rfl⟩))⟩
structure Rw (w:World) (R:Rmm) (ds:List Dl) (acts:List Ts) (vl va vd vc:Value) (g:Nat) (S:List Nat) (L:List (Nat×Nat)) (nn:Nat) (sts:Int→ASt) (way:List yB) (vw:Value) (W:World):Prop where
 gr:w.grownBy W none
 sb: ∀b∈S,w.heap.size≤b
 rm:Rm (fun k=>R.E ((k:Int)+1)) S L (fun k=>sts ((k:Int)+1)) nn W
 len:(L.length:Int)=R.p.N
 gS:g∈S
 bk:Bk W g 45 (zM R.p va vw vd vc)
 wy:Acc PC (g+1) 109 (zw (tBl g L)) W vw way
 wS: ∀b,vw.ownBlock=some b→b∈S
 al:Sl ZP (zw S) W va (zU R L)
 ds:Sl VC (zw S) W vd ds
 cm:Sl (zh ze) (zw S) W vc R.coms
 ac:Sl Yc (zw S) W vl acts
section
variable {w W W':World} {R:Rmm} {ds:List Dl} {acts:List Ts} {vl va vd vc vw:Value} {g:Nat} {S:List Nat} {L:List (Nat×Nat)} {nn:Nat} {sts:Int→ASt} {way:List yB}
theorem Rw.kept(h:Rw w R ds acts vl va vd vc g S L nn sts way vw W)(hg:W.grownBy W' none):Rw w R ds acts vl va vd vc g S L nn sts way vw W':=⟨h.gr.trans hg,h.sb,h.rm.kept hg,h.len,h.gS,h.bk.grown hg (by simp),h.wy.kept hg,h.wS,h.al.kept hg,h.ds.kept hg,h.cm.kept hg,h.ac.kept hg⟩
theorem Rw.free(h:Rw w R ds acts vl va vd vc g S L nn sts way vw W){b:Nat}(hb:W.heap.size≤b):zw S b:=h.rm.free hb
theorem Rw.up(h:Rw w R ds acts vl va vd vc g S L nn sts way vw W){m:Nat}(hm:nn≤m):Rw w R ds acts vl va vd vc g S L m sts way vw W:=⟨h.gr,h.sb,h.rm.up hm,h.len,h.gS,h.bk,h.wy,h.wS,h.al,h.ds,h.cm,h.ac⟩
theorem Bk.neAv{X:Nat→Prop}{W:World}{g:Nat}{t:TypeId}{cs:Array Value}{gA gM nn:Nat}{E':zv}{st:ASt}(h:Bk W g t cs)(hA:AvW X gA gM nn E' st W)(ht:t≠125):g≠gA∧g≠gM:=by
 obtain ⟨⟨vc,vd,vo,hb,_⟩,⟨D,⟨es,cl,hm,_⟩,_⟩,_⟩:=hA;have h1:W.heap[g]? =some (.cells cs t (0,0)):=h;refine ⟨fun e=> ?_,fun e=> ?_⟩
 ·subst e;have k1:W.heap[g]? =some (.cells _ 125 (0,0)):=hb;rw [h1] at k1;injection k1 with k1
  injection k1 with _ k2 _
  exact ht k2
 ·subst e;rw [h1] at hm;cases hm
theorem Rw.take(h:Rw w R ds acts vl va vd vc g S L nn sts way vw W){k:Nat}(hk:k< L.length)(hn:nn+3< maxLen){kind i:Int}(hk8:U8 kind)(hi:I64 i){v:Value}{l:List Int}{Y:Nat→Prop}(hl:Sl ze Y W v l)(hll:l.length≤100000):
  Calls prog 21 #[.pointer (some ⟨L[k].1,0,none⟩), .int .u8 kind, .int .i64 i,v] W fun e W'=> ∃v',e= .returned v'∧Sl YG (zw S) W' v' (zV (R.E ((k:Int)+1)) (sts ((k:Int)+1)) kind i l).2∧Rw w R ds acts vl va vd vc g S L (nn+3) (upd sts ((k:Int)+1) (zV (R.E ((k:Int)+1)) (sts ((k:Int)+1)) kind i l).1) way vw W'∧zJ L[k].1 L[k].2 W W':=by
 have hav:=h.rm.av k hk;have hsub:=h.rm.sub k hk;refine (h.rm.take hk hn hk8 hi hl hll).mono ?_;rintro e W' ⟨v',rfl,z1,z2,z3⟩;have nA: ¬zw S L[k].1:=fun e=>e hsub.1
 have nM: ¬zw S L[k].2:=fun e=>e hsub.2
 have hgne:=h.bk.neAv hav.2.1 (by decide);have hwne:=h.wy.neAv hav.2.1 (by decide);obtain ⟨u,k1,k2⟩:=z3.split;refine ⟨v',rfl,z1,⟨?_,h.sb, ?_,h.len,h.gS, ?_,h.wy.keep2 z3 (fun e=>e (OB hk).1) (fun e=>e (OB hk).2),h.wS,h.al.keep2 z3 nA nM,h.ds.keep2 z3 nA nM,h.cm.keep2 z3 nA nM,h.ac.keep2 z3 nA nM⟩,z3⟩
 ·exact zz (zz h.gr k1 (fun b e=>by injection e with e;rw [←e];exact h.sb _ hsub.2)) k2 (fun b e=>by injection e with e;rw [←e];exact h.sb _ hsub.1)
 ·have e:(fun j:Nat=>upd sts ((k:Int)+1) (zV (R.E ((k:Int)+1)) (sts ((k:Int)+1)) kind i l).1 ((j:Int)+1))=fun j=>if j=k then (zV (R.E ((k:Int)+1)) (sts ((k:Int)+1)) kind i l).1 else sts ((j:Int)+1):=by
   funext j
   by_cases hj:j=k
   ·subst hj;rw [yl,if_pos rfl]
   ·rw [ZU (by omega),if_neg hj]
  rw [e];exact z2
 ·exact (h.bk.grown k1 (fun e=>hgne.2 (by injection e))).grown k2 (fun e=>hgne.1 (by injection e))
theorem yC.two{s:Option Nat}{t:Nat}{W W2:World}(h:yC s (some t) W W2): ∃u,W.grownBy u s∧u.grownBy W2 (some t):=by
 cases s with
 |none=>exact ⟨W,gRr _ _,⟨h.os,h.tape,h.output,h.size,fun i hi hne=>h.block i hi (by simp) hne⟩⟩
 |some a=>
  have hg:zJ t a W W2:=⟨h.os,h.tape,h.output,h.size,fun i hi e1 e2=>h.block i hi (by simpa using e2) (by simpa using e1)⟩;exact hg.split
theorem Sl.put{α:Type}{E:Enc α}{S S':List Nat}{W W2:World}{v:Value}{xs:List α}{o:Option Nat}{g:Nat}(k:Sl E (zw S) W v xs)(hg:yC o (some g) W W2)(ho: ∀b,o=some b→b∈S)(hgS:g∈S)(m3: ∀b∈S',b∈S∨W.heap.size≤b):Sl E (zw S') W2 v xs:=by
 obtain ⟨u,k1,k2⟩:=hg.two;exact ((k.bounded.keep k1 (fun b hb e=>hb.1 (ho b e.symm))).keep k2 (fun b hb e=>hb.1 (by injection e with e;rw [e];exact hgS))).more fun b _ hb e=>by
  rcases m3 b e with e|e
  ·exact hb.1 e
  ·have:=hb.2
   omega
theorem Bk.put{S:List Nat}{W W2:World}{o:Option Nat}{g b:Nat}{t:TypeId}{cs:Array Value}(k:Bk W b t cs)(hb:zw S b)(hg:yC o (some g) W W2)(ho: ∀b,o=some b→b∈S)(hgS:g∈S):Bk W2 b t cs:=by
 obtain ⟨u,k1,k2⟩:=hg.two;exact (k.grown k1 (fun e=>hb (ho b e.symm))).grown k2 (fun e=>hb (by injection e with e;rw [e];exact hgS))
theorem Rw.put(h:Rw w R ds acts vl va vd vc g S L nn sts way vw W){v':Value}{way':List yB}{W2:World}(hg:yC vw.ownBlock (some g) W W2)(hm:xR W vw v')(ha:Acc PC (g+1) 109 (zw (tBl g L)) W2 v' way')(hb2:Bk W2 g 45 (zM R.p va v' vd vc)): ∃S',Rw w R ds acts vl va vd vc g S' L nn sts way' v' W2∧(∀b∈S,b∈S')∧ ∀b∈S',b∈S∨W.heap.size≤b:=by
 obtain ⟨u,k1,k2⟩:=hg.two;have hsz:w.heap.size≤W.heap.size:=h.gr.size;have hs2:W.heap.size≤W2.heap.size:=hg.size;obtain ⟨S',hS'⟩:=exq (v'.ownBlock.toList++S);have m1: ∀b∈S,b∈S':=fun b hb=>by rw [hS'];exact mAr _ hb
 have m2: ∀b,v'.ownBlock=some b→b∈S':=fun b hb=>by rw [hS',hb];simp
 have m3: ∀b∈S',b∈S∨(W.heap.size≤b∧v'.ownBlock=some b):=fun b hb=>by
  rw [hS'] at hb;rcases List.mem_append.1 hb with hb|hb
  ·have hb':v'.ownBlock=some b:=by simpa using hb
   rcases hm with hm|⟨n,hn,hm⟩
   ·exact .inl (h.wS b (by rw [←hm];exact hb'))
   ·rw [hm] at hb';injection hb' with e
    subst e;exact .inr ⟨hn,hm⟩
  ·exact .inl hb
 have lift: ∀{α:Type} {E:Enc α} {v:Value} {xs:List α},Sl E (zw S) W v xs→Sl E (zw S') W2 v xs:=fun k=>
  ((k.bounded.keep k1 (fun b hb e=>hb.1 (h.wS b e.symm))).keep k2 (fun b hb e=>hb.1 (by injection e with e;rw [e];exact h.gS))).more fun b _ hb e=>by
   rcases m3 b e with e|e
   ·exact hb.1 e
   ·have:=hb.2
    omega
 refine ⟨S',⟨zz (zz h.gr k1 (fun b e=>h.sb b (h.wS b e))) k2 (fun b e=>by injection e with e;rw [←e];exact h.sb _ h.gS),fun b hb=> ?_, ?_,h.len,m1 g h.gS,hb2,ha,m2,lift h.al,lift h.ds,lift h.cm,lift h.ac⟩,m1,fun b hb=>(m3 b hb).imp id (·.1)⟩
 ·rcases m3 b hb with e|e
  ·exact h.sb b e
  ·omega
 ·refine ⟨fun b hb=> ?_,h.rm.nd,fun i hi=>⟨m1 _ (h.rm.sub i hi).1,m1 _ (h.rm.sub i hi).2⟩,fun i hi=> ?_⟩
  ·rcases m3 b hb with e|e
   ·exact nLl (h.rm.sz b e) hs2
   ·exact (ha.lt b e.2).2
  ·obtain ⟨h1,h2,h3⟩:=h.rm.av i hi;have hne:=h.wy.neAv h2 (by decide);have hgn:=h.bk.neAv h2 (by decide);refine ⟨h1,(((h2.more (Y:=fun b=>zw S b∧b< W.heap.size) fun b hl hX=>⟨hX,hl⟩).keep k1 (fun b hX e=>hX.1 (h.wS b e.symm)) (fun e=>hne.1 e.symm) (fun e=>hne.2 e.symm)).keep k2 (fun b hX e=>hX.1 (by injection e with e;rw [e];exact h.gS)) (fun e=>hgn.1 (by injection e with e;exact e.symm)) (fun e=>hgn.2 (by injection e with e;exact e.symm))).more fun b _ hX e=> ?_,h3⟩;rcases m3 b e with e|e
   ·exact hX.1 e
   ·have:=hX.2
    omega
theorem Rw.inT(h:Rw w R ds acts vl va vd vc g S L nn sts way vw W): ∀b,zw S b→zw (tBl g L) b:=fun b hb e=>by
 unfold tBl at e;rcases List.mem_cons.1 e with e|e
 ·exact hb (e ▸ h.gS)
 ·rcases List.mem_append.1 e with e|e
  ·obtain ⟨x,hx,rfl⟩:=List.mem_map.1 e;obtain ⟨i,hi,rfl⟩:=List.mem_iff_getElem.1 hx;exact hb (h.rm.sub i hi).1
  ·obtain ⟨x,hx,rfl⟩:=List.mem_map.1 e;obtain ⟨i,hi,rfl⟩:=List.mem_iff_getElem.1 hx;exact hb (h.rm.sub i hi).2
end
end
section
open Go Go.RowKit Go.Shelf Go.Maps
theorem UB{o:Oper}{a:Act}{K:Act→World→Prop}{Q:Exit→Act→World→Prop}{w:World}(p v:Operand)(ho:o.op= .store 41 p v)(hd:o.dst=none){g k:Nat}{u c0:Value}(hp:a.eval p= .pointer (some ⟨g,k,none⟩))(hv:a.eval v=u)(hu: ∃A n c,u= .slice A n c)(hc:w.cell? ⟨g,k,none⟩=some c0)(hf:w.frozen? ⟨g,k,none⟩=false)(h:K a (w.setCell ⟨g,k,none⟩ u)):o.wp prog a w K Q:=by
 obtain ⟨A,n,c,rfl⟩:=hu;unfold Oper.wp execOp;simp only [ho];rw [hp,hv];clear hp hv ho;go_simp;exact h
section
variable {α:Type} (E:Enc α) (base:Nat) (e:TypeId) (X:Nat→Prop) (D:World) (a0:Value) (L:List α) (y:α) (bO:Nat) (t:TypeId) (cs:Array Value) (s:Nat)
def TA(vs:List (Nat×Value))(W:World):Prop:=XG E base e X D a0 L y bO t cs s vs W∧ ∀z,(0,z)∈vs→xR D a0 z
def NR:FR.Lt where
 C:=TA E base e X D a0 L y bO t cs s
 R:=(MX E base e X D a0 L y bO t cs s).R
 G W W':=W.grownBy W' none
 g:=fun h hg=>⟨(MX E base e X D a0 L y bO t cs s).g h.1 hg,h.2⟩
end
section
variable {α:Type} {E:Enc α} {base:Nat} {e:TypeId} {X:Nat→Prop} {D W W':World} {a0:Value} {L:List α} {y:α} {bO:Nat} {t:TypeId} {cs:Array Value} {s:Nat} {vs:List (Nat×Value)}
theorem TA.app{P:Program}{cx:List Value}{ta:TypeId}{bytes b c:Nat}{o:Oper}{a:Act}{K:Act→World→Prop}{Q:Exit→Act→World→Prop}(h:TA E base e X D a0 L y bO t cs s vs W)(hn:0 ∉ vs.map (·.1))(hE:zQ P ta e E.size bytes)
  (hrep:E.rep (fun g=>X g∧some g≠a0.ownBlock) W cx y) (hcell: ∀j u,cx[j]? =some u→W.cell? ⟨b,j,none⟩=some u) (hlen:(L.length+1)*bytes≤140737488355328) (hb:base≤W.heap.size) (hN: ∀g,W.heap.size≤g→X g) (q k:Operand)
  (ho:o.op= .call {callee:= .builtin .append,args:= #[q,k],argTypes:= #[ta,ta]}) (hs:a.eval q=a0) (hx:a.eval k= .slice (some ⟨b,0,none⟩) 1 c)
  (hK: ∀v' w',(NR E base e X D a0 L y bO t cs s).R 0 v' W w'∧TA E base e X D a0 L y bO t cs s (vs++ [(0,v')]) w'→K (a.put o.dst v') w'):o.wp P a W K Q:=
 h.1.app hn hE hrep hcell hlen hb hN q k ho hs hx fun v' w' hr=>hK v' w' ⟨hr.1,hr.2,fun z hz=>by
  have e0:z=v':=yN hz hn;subst e0;rcases hr.1 with ⟨_,_,hm⟩|⟨e1,_⟩
  ·rcases hm with hm|⟨n,hn,hm⟩
   ·exact .inl hm
   ·exact .inr ⟨n,nLT h.1.gr.size hn,hm⟩
  ·cases e1⟩
theorem TA.put{u:Value}(h:TA E base e X D a0 L y bO t cs s vs W)(hn:1 ∉ vs.map (·.1)){a1:Value}(ha:(0,a1)∈vs)(hX: ∀g,X g→g≠bO)(hG:W.grownBy W' (some bO))(hb:Bk W' bO t (cs.setIfInBounds s a1)):(NR E base e X D a0 L y bO t cs s).R 1 u W W'∧TA E base e X D a0 L y bO t cs s (vs++ [(1,u)]) W':=by
 have k:=h.1.put (u:=u) hn ha hX hG hb;exact ⟨k.1,k.2,fun z hz=>h.2 z (ym hz (by decide))⟩
theorem TA.fin(h:TA E base e X D a0 L y bO t cs s vs W)(h0: ∀q,q< 2↔q∈vs.map (·.1)): ∃a1,Acc E base e X W a1 (L++ [y])∧Bk W bO t (cs.setIfInBounds s a1)∧yC a0.ownBlock (some bO) D W∧xR D a0 a1:=by
 obtain ⟨⟨a1,h1,h2,h3,h4,_⟩,hm⟩:=h;have m0:=(h0 0).1 (by decide);rw [if_pos m0] at h1 h2;rw [if_pos ((h0 1).1 (by decide))] at h3;obtain ⟨⟨q,z⟩,hz,e⟩:=List.mem_map.1 m0;dsimp only at e;subst e
 have:=h2 z hz
 subst this;exact ⟨z,h1,h3,h4,hm z hz⟩
def DY(n0:Nat)(t':TypeId)(c':Array Value)(hv: ∀g,a0.ownBlock=some g→g< n0)(hu:bO< n0):FR.Qv (NR E base e X D a0 L y bO t cs s):=⟨fun _ v w=> ∃b,v= .slice (some ⟨b,0,none⟩) 1 1∧n0≤b∧Bk w b t' c',fun ⟨b,h1,h2,h3⟩ hg=>⟨b,h1,h2,h3.grown hg (by simp)⟩,fun _ hr ⟨b,h1,h2,h3⟩=>by
 rcases hr with ⟨_,hg,_⟩|⟨_,hg⟩
 ·exact ⟨b,h1,h2,h3.grown hg (fun e=>by have:=hv b e.symm;omega)⟩
 ·exact ⟨b,h1,h2,h3.grown hg (fun e=>by injection e with e;omega)⟩⟩
end
def Bt(A:World→Prop)(B:Value→World→Prop)(hA: ∀{w w':World},A w→w.grownBy w' none→A w')(hB: ∀{v:Value} {w w':World},B v w→w.grownBy w' none→B v w'):FR.Lt where
 C vs W:=(vs= []∧A W)∨ ∃v,vs= [(0,v)]∧B v W
 R:=fun _ _ _ _=>True
 G w w':=w.grownBy w' none
 g:=fun h hg=>h.imp (fun h=>⟨h.1,hA h.2 hg⟩) (fun ⟨v,h1,h2⟩=>⟨v,h1,hB h2 hg⟩)
theorem JC{A:World→Prop}{B:Value→World→Prop}{vs:List (Nat×Value)}{W:World}(h:(vs= []∧A W)∨ ∃v,vs= [(0,v)]∧B v W)(hn:0 ∉ vs.map (·.1)):vs= []∧A W:=by
 rcases h with h|⟨v,rfl,_⟩
 ·exact h
 ·exact absurd (by simp) hn
theorem JB{A:World→Prop}{B:Value→World→Prop}{vs:List (Nat×Value)}{W:World}(h:(vs= []∧A W)∨ ∃v,vs= [(0,v)]∧B v W){x:Value}(hx:(0,x)∈vs):vs= [(0,x)]∧B x W:=by
 rcases h with ⟨rfl,_⟩|⟨v,rfl,h⟩
 ·cases hx
 ·have e:=(Prod.mk.inj (List.mem_singleton.1 hx)).2;subst e;exact ⟨rfl,h⟩
theorem RE(j:Int){out:List yL}{i:Nat}(hi:i< out.length):yz j (out.take (i+1))=yz j (out.take i)++(if out[i].1=10 then [] else [(j,out[i].2.1,out[i].1,out[i].2.2)]):=by
 rw [tSg hi];unfold yz;rw [List.filter_append,lMa]
 congr 1
 by_cases h:out[i].1=10
 ·rw [if_pos h];simp [h]
 ·rw [if_neg h];simp [h]
def TlW(w:World)(R:Rmm)(ds:List Dl)(acts:List Ts)(vl va vd vc:Value)(g:Nat)(L:List (Nat×Nat))(nn:Nat)(sts:Int→ASt)(B:Nat)(mc:Array Value)(vo:Value)(out:List yL)(way:List yB)(W:World):Prop:=
 ∃S vw,Rw w R ds acts vl va vd vc g S L nn sts way vw W∧Sl YG (zw S) W vo out∧Bk W B 109 mc∧zw S B
structure TlP where
 w:World
 R:Rmm
 ds:List Dl
 acts:List Ts
 vl:Value
 va:Value
 vd:Value
 vc:Value
 g:Nat
 S:List Nat
 L:List (Nat×Nat)
 nn:Nat
 sts:Int→ASt
 way:List yB
 vw:Value
 W1:World
 B:Nat
 mc:Array Value
 ST:Int→ASt
 OUT:List yL
namespace TlP
variable (t:TlP)
def A(V:World):Prop:=Rw t.w t.R t.ds t.acts t.vl t.va t.vd t.vc t.g t.S t.L t.nn t.sts t.way t.vw V∧Bk V t.B 109 t.mc∧t.W1.grownBy V none
def Bb(v:Value)(V:World):Prop:=Rw t.w t.R t.ds t.acts t.vl t.va t.vd t.vc t.g t.S t.L (t.nn+3) t.ST t.way t.vw V∧Bk V t.B 109 t.mc∧Sl YG (zw t.S) V v t.OUT
def Lt:FR.Lt:=Bt t.A t.Bb (fun ⟨h1,h2,h3⟩ hg=>⟨h1.kept hg,h2.grown hg (by simp),h3.trans hg⟩) (fun ⟨h1,h2,h3⟩ hg=>⟨h1.kept hg,h2.grown hg (by simp),h3.kept hg⟩)
variable {t} {vs:List (Nat×Value)} {V:World}
theorem bks(h:t.Lt.C vs V):Bk V t.B 109 t.mc∧Bk V t.g 45 (zM t.R.p t.va t.vw t.vd t.vc)∧Sl ZP (zw t.S) V t.va (zU t.R t.L):=by
 rcases h with ⟨_,h1,h2,_⟩|⟨_,_,h1,h2,_⟩
 ·exact ⟨h2,h1.bk,h1.al⟩
 ·exact ⟨h2,h1.bk,h1.al⟩
theorem new(h:t.Lt.C vs V)(hn:0 ∉ vs.map (·.1)):vs= []∧t.W1.grownBy V none:=by
 obtain ⟨h1,_,_,h2⟩:=JC (A:=t.A) (B:=t.Bb) h hn;exact ⟨h1,h2⟩
theorem old(h:t.Lt.C vs V){x:Value}(hx:(0,x)∈vs):t.Bb x V:=(JB (A:=t.A) (B:=t.Bb) h hx).2
end TlP
attribute [local go_sem] Oper.semAt_some
theorem YV(w:World)(R:Rmm)(hR:R.ok)(ds:List Dl)(c0:List Ts)(vl va vd vc:Value)(g:Nat)(S:List Nat)(L:List (Nat×Nat))(nn:Nat)(sts:Int→ASt)(d0:List yB)(vw:Value)(W:World)(fr tq kd:Int)(ns:List Int)(vn:Value)(Y:Nat→Prop)
  (h:Rw w R ds c0 vl va vd vc g S L nn sts d0 vw W) (hs:Sl ze Y W vn ns) (hf:I64 fr) (ht:I64 tq) (hk:U8 kd) (r1:ns.length≤100000) (hn:nn+3< maxLen) (n1:d0.length≤1000):
  Calls prog 40 #[.pointer (some ⟨g,0,none⟩), .agg #[.int .i64 fr, .int .i64 tq, .int .u8 kd,vn]] W fun e W'=>e= .returned (.tuple #[])∧ ∃S' f0,Rw w R ds c0 vl va vd vc g S' L (nn+3) (R.tell sts d0 (fr,tq,kd,ns)).1 (R.tell sts d0 (fr,tq,kd,ns)).2 f0 W':=by
 obtain ⟨r,hr⟩:=exq (R.tell sts d0 (fr,tq,kd,ns));rw [←hr];have HR:=za hr;obtain ⟨Aa,ca,rfl, -, -⟩:=h.al.form;rw [yP] at h ⊢;have Y0:=h.len;obtain ⟨NL,V0⟩:=exq (L.length);have N1:=za V0;rw [←V0] at h Y0 ⊢;obtain ⟨An,mn,cn,rfl⟩:=hs.shape;obtain ⟨W1,I0⟩:=exq (W.alloc (Obj.cells #[.int .i64 fr, .int .i64 tq, .int .u8 kd, .slice An mn cn] 109));obtain ⟨B,hB⟩:=exq (W.heap.size);have HB:Hid (Bk W1 B 109 #[.int .i64 fr, .int .i64 tq, .int .u8 kd, .slice An mn cn]∧zw S B):=za ⟨by rw [I0,hB];exact Bk.new _ _ _,h.free (by rw [hB];exact nRf _)⟩;have j0:Hid (Rw w R ds c0 vl (.slice Aa NL ca) vd vc g S L nn sts d0 vw W1∧Sl ze Y W1 (.slice An mn cn) ns):=za (by rw [I0];exact ⟨h.kept (gAl _ _ none),hs.kept (gAl _ _ none)⟩);have HI:=za (And.intro hf (And.intro ht (And.intro hk (And.intro r1 (And.intro hn n1)))));have Y1:=za hR;clear h hs hr V0 hf hk r1 hn n1 hR;go_enter func40,ntmps40;go_upto_region 1 with (fail)
 rw [←I0, ←hB];clear I0 hB;have hb:=HB.z.1.rule;have f2:=j0.z.1.bk.rule;obtain ⟨Ht,j2⟩:=ht;have f1:=za Y0;clear Y0;by_cases hH:R.H tq
 case neg=>
  have HF:Hid (r=(sts,d0)):=za (by rw [HR.z];unfold Rmm.tell;rw [if_neg hH]);have A0:tq< 1∨(1≤tq∧(NL:Int)< tq)∨ ∃k:Nat,(k:Int)+1=tq∧k< NL∧R.hon tq=false:=by
   by_cases h1:tq< 1
   ·exact .inl h1
   ·by_cases h2:(NL:Int)< tq
    ·exact .inr (.inl ⟨by omega,h2⟩)
    ·refine .inr (.inr ⟨(tq - 1).toNat,by omega,by have:=f1.z;omega, ?_⟩);cases e:R.hon tq with
     |false=>rfl
     |true=>exact absurd ⟨⟨by omega,by have:=f1.z;omega⟩,e⟩ hH
  clear hH;rcases A0 with h1|⟨h1,h2⟩|⟨k,h1,h2,h3⟩
  ·have G0:decide (tq< 1)=true:=decide_eq_true h1;clear h1;go_quiet (fail);go_wp2
   first|go_end0|refine bodyPost_ret (results_none rfl _ _ _) rfl ?_
   exact ⟨rfl,S,vw,by rw [HF.z];exact (j0.z.1.kept (zb _ _)).up (by omega)⟩
  ·have G0:decide (tq< 1)=false:=decide_eq_false (by omega);have T0:decide ((NL:Int)< tq)=true:=decide_eq_true h2;clear h1 h2;go_quiet (fail);go_wp2
   first|go_end0|refine bodyPost_ret (results_none rfl _ _ _) rfl ?_
   exact ⟨rfl,S,vw,by rw [HF.z];exact (j0.z.1.kept (zb _ _)).up (by omega)⟩
  ·have G0:decide (tq< 1)=false:=decide_eq_false (by omega);have T0:decide ((NL:Int)< tq)=false:=decide_eq_false (by omega);have l0:k< L.length:=by rw [←N1.z];exact h2
   obtain ⟨ga,oa,ca',ea, -, -,m0⟩:=j0.z.1.al.atAO (k:=k) (by rw [yP];exact l0);rw [xt R L l0,h1,h3,if_neg (by simp)] at m0;have m0:W1.cell? ⟨ga,oa+k,none⟩=some (.pointer none):=m0;injection ea with ea1 ea2 ea3
   subst ea1;clear ea2 ea3;have P0:IntKind.i64.wrap (tq - 1)=(k:Int):=by rw [i6n _ (by omega)];omega
   have v1:(0:Int)≤(k:Int):=iNn k;have u1:(k:Int)< (NL:Int):=by omega
   clear h1 h2 h3 l0;go_quiet (fail);go_wp2
   first|go_end0|refine bodyPost_ret (results_none rfl _ _ _) rfl ?_
   exact ⟨rfl,S,vw,by rw [HF.z];exact (j0.z.1.kept (zb _ _)).up (by omega)⟩
 case pos=>
  obtain ⟨⟨e0,Z0⟩,K0⟩:=hH;obtain ⟨k,hk⟩: ∃k:Nat,(k:Int)+1=tq:=⟨(tq - 1).toNat,by omega⟩;have u0:k< NL:=by have:=f1.z;omega
  have l0:k< L.length:=by rw [←N1.z];exact u0
  have O0:=za l0;obtain ⟨ga,oa,ca',ea,y0,v0,o0⟩:=j0.z.1.al.atAO (k:=k) (by rw [yP];exact l0);rw [xt R L l0,hk,K0,if_pos rfl] at o0;obtain ⟨gA,S0⟩:=exq (L[k].1);have m0:W1.cell? ⟨ga,oa+k,none⟩=some (.pointer (some ⟨gA,0,none⟩)):=by rw [S0];exact o0
  injection ea with ea1 ea2 ea3
  subst ea1;clear ea2 ea3;obtain ⟨b0,k0⟩:=exq ((zV (R.E tq) (sts tq) kd fr ns).2);obtain ⟨ST,U0⟩:=exq (upd sts tq (zV (R.E tq) (sts tq) kd fr ns).1);have HF:Hid (r=(ST,d0++yz tq b0)):=za (by
   rw [HR.z,k0,U0];unfold Rmm.tell;rw [if_pos (show R.H tq from ⟨⟨e0,Z0⟩,K0⟩)];rfl)
  have M1:Hid (b0.length≤1000):=za (by rw [k0];exact KH (Y1.z.env tq e0 Z0) _ _ _ _);have g1:=za S0;have L1:Hid (∀V,W1.grownBy V none→Calls prog 21 #[.pointer (some ⟨gA,0,none⟩), .int .u8 kd, .int .i64 fr, .slice An mn cn] V fun e W'=> ∃v',e= .returned v'∧Rw w R ds c0 vl (.slice (some ⟨ga,oa,none⟩) NL ca) vd vc g S L (nn+3) ST d0 vw W'∧Bk W' B 109 #[.int .i64 fr, .int .i64 tq, .int .u8 kd, .slice An mn cn]∧Sl YG (zw S) W' v' b0):=za (fun V hV=>by
   obtain ⟨i1,i2,i3,i4,i5,i6⟩:=HI.z;have s1:=O0.z;have eA:=g1.z;subst eA;refine ((j0.z.1.kept hV).take s1 i5 i3 i1 (j0.z.2.kept hV) i4).mono ?_;rintro e W' ⟨v',rfl,z1,z2,z3⟩;rw [hk] at z1 z2;rw [←k0] at z1;rw [←U0] at z2;have hs:=z2.rm.sub k s1;exact ⟨v',rfl,z2,((HB.z.1.grown hV (by simp))).keep2 z3 (fun e=>HB.z.2 (by rw [e];exact hs.1)) (fun e=>HB.z.2 (by rw [e];exact hs.2)),z1⟩)
  have P0:IntKind.i64.wrap (tq - 1)=(k:Int):=by rw [i6n _ (by omega)];omega
  have v1:(0:Int)≤(k:Int):=iNn k;have u1:(k:Int)< (NL:Int):=by omega
  have G0:decide (tq< 1)=false:=decide_eq_false (by omega);have T0:decide ((NL:Int)< tq)=false:=decide_eq_false (by omega);have X1:=za m0;have E1:Hid (ga< W1.heap.size∧zw S ga):=za ⟨y0,v0⟩;have x1:=za K0;clear o0 e0 Z0 K0 u0 l0 S0 k0 U0 y0 v0;go_quiet (fail);go_upto_region 2 with (fail)
  obtain ⟨T,r0⟩: ∃T:TlP,T=⟨w,R,ds,c0,vl,(.slice (some ⟨ga,oa,none⟩) NL ca),vd,vc,g,S,L,nn,sts,d0,vw,W1,B, #[.int .i64 fr, .int .i64 tq, .int .u8 kd, .slice An mn cn],ST,b0⟩:=⟨_,rfl⟩;have HT:=za r0;have B0:Hid (∀V,W1.grownBy V none→T.Lt.C [] V):=za (fun V hV=>by subst r0;exact .inl ⟨rfl,j0.z.1.kept hV,HB.z.1.grown hV (by simp),hV⟩);have g0:Hid (∀vs V,T.Lt.C vs V→(∀o,V.cell? ⟨B,o,none⟩=(#[.int .i64 fr, .int .i64 tq, .int .u8 kd, .slice An mn cn]:Array Value)[o]?)∧(∀o,V.cell? ⟨g,o,none⟩=(zM R.p (.slice (some ⟨ga,oa,none⟩) NL ca) vw vd vc)[o]?)∧V.cell? ⟨ga,oa+k,none⟩=some (.pointer (some ⟨gA,0,none⟩))):=za (fun vs V h=>by
   subst r0;obtain ⟨b1,b2,b3⟩:=TlP.bks h;refine ⟨b1.rule,b2.rule, ?_⟩;obtain ⟨ga',oa',ca'',ea, -, -,hc⟩:=b3.atAO (k:=k) (by rw [yP];exact O0.z);injection ea with e1 e2 e3
   injection e1 with e1
   injection e1 with e1 e4 e5
   subst e1 e4;rw [xt R L O0.z,hk,x1.z,if_pos rfl] at hc;rw [g1.z];exact hc)
  have J1:Hid (∀vs V,T.Lt.C vs V→0 ∉ vs.map (·.1)→Calls prog 21 #[.pointer (some ⟨gA,0,none⟩), .int .u8 kd, .int .i64 fr, .slice An mn cn] V fun e W'=> ∃v',e= .returned v'∧T.Lt.C (vs++ [(0,v')]) W'):=za (fun vs V h hn=>by
   subst r0;obtain ⟨e1,e2⟩:=TlP.new h hn;refine (L1.z V e2).mono ?_;rintro e W' ⟨v',rfl,z1,z2,z3⟩;exact ⟨v',rfl, .inr ⟨v',by rw [e1];rfl,z1,z2,z3⟩⟩)
  have c1:Hid (∀vs V x,T.Lt.C vs V→(0,x)∈vs→Rw w R ds c0 vl (.slice (some ⟨ga,oa,none⟩) NL ca) vd vc g S L (nn+3) ST d0 vw V∧Bk V B 109 #[.int .i64 fr, .int .i64 tq, .int .u8 kd, .slice An mn cn]∧Sl YG (zw S) V x b0):=za (fun vs V x h hx=>by
   subst r0;exact TlP.old h hx)
  clear r0 hk m0;refine FR.wp_region_late T.Lt [15] 18 (by kernel_rfl) (by kernel_rfl) (by kernel_rfl) (B0.z _ (by first|exact zb _ _|exact (zb _ _).trans (zb _ 1))) ?_;refine FR.mS (.pointer (some ⟨g,0,none⟩)) [] (fun vs w' hC=>FR.kD fun K hK=> ?_) ?_
  ·go_simp;exact hK _ _ rfl ⟨rfl,gRf⟩
  refine FR.mS (.pointer (some ⟨g,0,none⟩)) [(0,31)] (fun vs w' hC=>FR.pQ (FR.kD fun K hK=> ?_)) ?_
  ·go_simp;exact hK _ _ rfl ⟨rfl,gRf⟩
  refine FR.mS (.pointer (some ⟨g,12,none⟩)) [(1,32)] (fun vs w' hC=>FR.pQ (FR.kD fun K hK=> ?_)) ?_
  ·go_simp;exact hK _ _ rfl ⟨rfl,gRf⟩
  refine FR.mS (.slice (some ⟨ga,oa,none⟩) NL ca) [(2,33)] (fun vs w' hC=>FR.pQ (FR.kD fun K hK=> ?_)) ?_
  ·have hC:T.Lt.C vs w':=hC;obtain ⟨l1,l2,l3⟩:=g0.z vs w' hC;go_simp;exact hK _ _ rfl ⟨rfl,gRf⟩
  refine FR.mS (.pointer (some ⟨B,1,none⟩)) [] (fun vs w' hC=>FR.kD fun K hK=> ?_) ?_
  ·go_simp;exact hK _ _ rfl ⟨rfl,gRf⟩
  refine FR.mS (.int .i64 tq) [(4,35)] (fun vs w' hC=>FR.pQ (FR.kD fun K hK=> ?_)) ?_
  ·have hC:T.Lt.C vs w':=hC;obtain ⟨l1,l2,l3⟩:=g0.z vs w' hC;go_simp;exact hK _ _ rfl ⟨rfl,gRf⟩
  refine FR.mS (.int .i64 k) [(5,36)] (fun vs w' hC=>FR.pQ (FR.kD fun K hK=> ?_)) ?_
  ·go_simp;exact hK _ _ rfl ⟨(by first|rfl|simp [P0]),gRf⟩
  refine FR.mS (.pointer (some ⟨ga,oa+k,none⟩)) [(3,34),(6,37)] (fun vs w' hC=>FR.pQ (FR.pQ (FR.kD fun K hK=> ?_))) ?_
  ·go_simp;exact hK _ _ rfl ⟨rfl,gRf⟩
  refine FR.mS (.pointer (some ⟨gA,0,none⟩)) [(7,38)] (fun vs w' hC=>FR.pQ (FR.kD fun K hK=> ?_)) ?_
  ·have hC:T.Lt.C vs w':=hC;obtain ⟨l1,l2,l3⟩:=g0.z vs w' hC;go_simp;exact hK _ _ rfl ⟨rfl,gRf⟩
  refine FR.mS (.pointer (some ⟨B,2,none⟩)) [] (fun vs w' hC=>FR.kD fun K hK=> ?_) ?_
  ·go_simp;exact hK _ _ rfl ⟨rfl,gRf⟩
  refine FR.mS (.int .u8 kd) [(9,40)] (fun vs w' hC=>FR.pQ (FR.kD fun K hK=> ?_)) ?_
  ·have hC:T.Lt.C vs w':=hC;obtain ⟨l1,l2,l3⟩:=g0.z vs w' hC;go_simp;exact hK _ _ rfl ⟨rfl,gRf⟩
  refine FR.mS (.pointer (some ⟨B,0,none⟩)) [] (fun vs w' hC=>FR.kD fun K hK=> ?_) ?_
  ·go_simp;exact hK _ _ rfl ⟨rfl,gRf⟩
  refine FR.mS (.int .i64 fr) [(11,42)] (fun vs w' hC=>FR.pQ (FR.kD fun K hK=> ?_)) ?_
  ·have hC:T.Lt.C vs w':=hC;obtain ⟨l1,l2,l3⟩:=g0.z vs w' hC;go_simp;exact hK _ _ rfl ⟨rfl,gRf⟩
  refine FR.mS (.pointer (some ⟨B,3,none⟩)) [] (fun vs w' hC=>FR.kD fun K hK=> ?_) ?_
  ·go_simp;exact hK _ _ rfl ⟨rfl,gRf⟩
  refine FR.mS (.slice An mn cn) [(13,44)] (fun vs w' hC=>FR.pQ (FR.kD fun K hK=> ?_)) ?_
  ·have hC:T.Lt.C vs w':=hC;obtain ⟨l1,l2,l3⟩:=g0.z vs w' hC;go_simp;exact hK _ _ rfl ⟨rfl,gRf⟩
  refine FR.LateR.turn 0 [(8,39),(10,41),(12,43),(14,45)] (by kernel_rfl) [] rfl (by kernel_rfl) (fun vs w' hn hr hC=> ?_) ?_
  ·intro x39 I1;intro x41 H1;intro x43 G1;intro x45 F1;have e39:x39= .pointer (some ⟨gA,0,none⟩):=I1;clear I1;subst e39;have e41:x41= .int .u8 kd:=H1;clear H1;subst e41;have e43:x43= .int .i64 fr:=G1;clear G1;subst e43;have e45:x45= .slice An mn cn:=F1;clear F1;subst e45;refine FR.askl_do rfl fun K hK=> ?_
   have hC:T.Lt.C vs w':=hC;go_simp;refine (J1.z vs w' hC hn).mono ?_;rintro e w3 ⟨v,rfl,hc⟩;exact hK _ _ rfl ⟨trivial,hc⟩
  refine FR.mS (.int .i64 b0.length) [(15,46)] (fun vs w' hC x46 w0=>FR.kD fun K hK=> ?_) ?_
  ·have hC:T.Lt.C vs w':=hC;have w0:(0,x46)∈vs:=w0;obtain ⟨Ao,co,e,_,_⟩:=(c1.z vs w' _ hC w0).2.2.form;subst e;go_simp;exact hK _ _ rfl ⟨rfl,gRf⟩
  refine FR.mS (.int .i64 0) [] (fun vs w' hC=>FR.kD fun K hK=> ?_) ?_
  ·go_simp;exact hK _ _ rfl ⟨rfl,gRf⟩
  intro vs w3 C0 M0;have M0:T.Lt.C vs w3:=M0
  iterate 15 (refine pD ?_;intro _)
  intro y15 k15 y16 k16 y17 k17;have e15:(0,y15)∈vs:=k15;have e16:y16= .int .i64 b0.length:=k16;have e17:y17= .int .i64 0:=k17;have H3:=za (c1.z vs w3 y15 M0 e15);obtain ⟨Ao,co,eo, -, -⟩:=H3.z.2.2.form;subst eo e16 e17;have K1:Hid (TlW w R ds c0 vl (.slice (some ⟨ga,oa,none⟩) NL ca) vd vc g L (nn+3) ST B #[.int .i64 fr, .int .i64 tq, .int .u8 kd, .slice An mn cn] (.slice Ao b0.length co) b0 (d0++yz tq (b0.take 0)) w3):=za ⟨S,vw,by rw [show yz tq (b0.take 0)= [] from rfl,List.append_nil];exact H3.z.1,H3.z.2.2,H3.z.2.1,HB.z.2⟩;have V1:Hid (d0.length≤1000):=za HI.z.2.2.2.2.2;have w1:Hid (I64 tq):=za HI.z.2.1;clear e15 C0 M0 H3 c1 J1 g0 B0 HT L1 E1 X1 HB j0 HI g1 O0 P0 v1 u1 G0 T0;show wpList _ _ _ _ _ _;refine wpList_nil ?_;simp only [Act.put,sAa,sAb,sAc];go_wp2_with fail;obtain ⟨n,hn⟩:=exq (b0.length);have d1:=za hn;rw [←hn] at K1 ⊢;clear hn;have a2:n≤1000:=by rw [d1.z];exact M1.z
  go_loopg [5,48] n (fun g' s5 s48 wx=> ∃i:Nat,i+g'=n∧s48= .int .i64 i∧Hid (TlW w R ds c0 vl (.slice (some ⟨ga,oa,none⟩) NL ca) vd vc g L (nn+3) ST B #[.int .i64 fr, .int .i64 tq, .int .u8 kd, .slice An mn cn] (.slice Ao n co) b0 (d0++yz tq (b0.take i)) wx))
  case atStart=>exact ⟨0,by omega,rfl,K1⟩
  case round=>
   obtain ⟨i,hi,rfl,HX⟩:=hrel;rcases Nat.eq_zero_or_pos gk with hg0|hg0
   ·obtain rfl:i=n:=by omega
    have j1:Hid (∃S' f0,Rw w R ds c0 vl (.slice (some ⟨ga,oa,none⟩) NL ca) vd vc g S' L (nn+3) r.1 r.2 f0 wr):=za (by
     obtain ⟨S',f0,h1,_⟩:=HX.z;rw [List.take_of_length_le (by rw [←d1.z];exact nRf _)] at h1;rw [HF.z];exact ⟨S',f0,h1⟩)
    clear HX hg0;go_wp2
    first|go_end0|refine bodyPost_ret (results_none rfl _ _ _) rfl ?_
    exact ⟨rfl,j1.z⟩
   ·have c2:(i:Int)< (n:Int):=by omega
    have d2:(0:Int)≤(i:Int):=iNn i;have y1:i< b0.length:=by rw [←d1.z];omega
    obtain ⟨S',f0,i0,R0,A1,o1⟩:=HX.z;obtain ⟨go,oo,co',uo,eo,S1,R1,⟨m0,T1,g2⟩,Q0,Mk,D0⟩:=R0.atO y1;injection eo with eo1 eo2 eo3
    subst eo1;clear eo2 eo3;have x0:=za (RE tq y1);obtain ⟨y,hy⟩:=exq (b0[i]);rw [←hy] at m0 T1 Q0 Mk D0 x0;obtain ⟨PR,J0⟩:=exq (d0++yz tq (b0.take i));have Z1:Hid ((PR.length+1)*48≤140737488355328):=za (by
     have h1:=M1.z;have h2:=V1.z;have h3:(yz tq (b0.take i)).length≤b0.length:=by
      unfold yz;rw [lLm];exact nLT (List.length_filter_le _ _) (by rw [lLt];omega)
     rw [J0,lLa];omega)
    have W0:Hid (d0++yz tq (b0.take (i+1))=PR++(if y.1=10 then [] else [(tq,y.2.1,y.1,y.2.2)])):=za (by rw [x0.z,J0,List.append_assoc]);rw [←J0] at i0;obtain ⟨Au,nu,cu,rfl⟩:=D0.shape;obtain ⟨w5,t0⟩:=exq (wr.alloc (Obj.cells #[.int .u8 y.1, .int .i64 y.2.1, .slice Au nu cu] 71));obtain ⟨b5,H0⟩:=exq (wr.heap.size);have z0:wr.grownBy w5 none:=by rw [t0];exact gAl _ _ none
    have H5:Hid (Rw w R ds c0 vl (.slice (some ⟨ga,oa,none⟩) NL ca) vd vc g S' L (nn+3) ST PR f0 w5∧Sl YG (zw S') w5 (.slice (some ⟨go,oo,none⟩) n co) b0∧Bk w5 B 109 #[.int .i64 fr, .int .i64 tq, .int .u8 kd, .slice An mn cn]∧zw S' B):=za ⟨i0.kept z0,R0.kept z0,A1.grown z0 (by simp),o1⟩;have k1:Hid (Bk w5 b5 71 #[.int .u8 y.1, .int .i64 y.2.1, .slice Au nu cu]∧zw S' b5):=za ⟨by rw [t0,H0];exact Bk.new _ _ _,i0.free (by rw [H0];exact nRf _)⟩;have HU:Hid ((U8 y.1∧I64 y.2.1)∧Sl ze (zw S') w5 (.slice Au nu cu) y.2.2):=za ⟨⟨Q0,Mk⟩,D0.kept z0⟩;have Q1:=k1.z.1.rule;have P1:=H5.z.2.2.1.rule;have O1:=H5.z.1.bk.rule;clear HX i0 R0 A1 o1 Q0 Mk D0 S1 R1 hy J0 x0 z0;by_cases s0:y.1=10
    ·have hd:(y.1 !=10)=false:=by simp [s0]
     have p0:Hid (TlW w R ds c0 vl (.slice (some ⟨ga,oa,none⟩) NL ca) vd vc g L (nn+3) ST B #[.int .i64 fr, .int .i64 tq, .int .u8 kd, .slice An mn cn] (.slice (some ⟨go,oo,none⟩) n co) b0 (d0++yz tq (b0.take (i+1))) w5):=za (by
      rw [W0.z,if_pos s0,List.append_nil];exact ⟨S',f0,H5.z⟩)
     clear s0;go_wp2_with fail;rw [←t0];go_roundg (gk - 1)
     case measure=>omega
     case rel=>exact ⟨i+1,by omega,by go_num,p0⟩
    ·have hd:(y.1 !=10)=true:=by simp [s0]
     have E0:Hid (d0++yz tq (b0.take (i+1))=PR++ [(tq,y.2.1,y.1,y.2.2)]):=za (by rw [W0.z,if_neg s0]);clear s0 W0;go_upto_region 6 with (fail)
     rw [←t0, ←H0];clear t0 H0;have q0:w5.grownBy w5.drew none:=zb w5 1;have n0:=za q0;have X0:Hid ((∀b,f0.ownBlock=some b→b< w5.drew.heap.size)∧g< w5.drew.heap.size):=za ⟨fun b e=>nLl (H5.z.1.wy.lt b e).2 q0.size,nLl H5.z.1.bk.lt q0.size⟩;have B0:Hid (TA PC (g+1) 109 (zw (tBl g L)) w5.drew f0 PR (tq,y.2.1,y.1,y.2.2) g 45 (zM R.p (.slice (some ⟨ga,oa,none⟩) NL ca) f0 vd vc) 13 [] w5.drew):=za ⟨XG.start (H5.z.1.wy.kept q0) (H5.z.1.bk.grown q0 (by simp)) (Nat.lt_succ_self _),fun z hz=>by cases hz⟩;have g0:Hid (∀vs V,TA PC (g+1) 109 (zw (tBl g L)) w5.drew f0 PR (tq,y.2.1,y.1,y.2.2) g 45 (zM R.p (.slice (some ⟨ga,oa,none⟩) NL ca) f0 vd vc) 13 vs V→((∀o,V.cell? ⟨b5,o,none⟩=(#[.int .u8 y.1, .int .i64 y.2.1, .slice Au nu cu]:Array Value)[o]?)∧ ∀o,V.cell? ⟨B,o,none⟩=(#[.int .i64 fr, .int .i64 tq, .int .u8 kd, .slice An mn cn]:Array Value)[o]?)∧(w5.drew.heap.size≤V.heap.size∧g+1≤V.heap.size)∧(∀b,V.heap.size≤b→zw (tBl g L) b)∧PC.rep (fun b=>zw (tBl g L) b∧some b≠f0.ownBlock) V [.int .i64 tq, .int .i64 y.2.1, .int .u8 y.1, .slice Au nu cu] (tq,y.2.1,y.1,y.2.2)):=za (fun vs V hC=>by
      have F0:=hC.1.gr;have i0:=H5.z.1;have hs:=F0.size;refine ⟨⟨((k1.z.1.grown n0.z (by simp)).put k1.z.2 F0 i0.wS i0.gS).rule,((H5.z.2.2.1.grown n0.z (by simp)).put H5.z.2.2.2 F0 i0.wS i0.gS).rule⟩,⟨hs,by have:=X0.z.2;omega⟩,fun b hb=>i0.inT b (i0.free (by have:=n0.z.size;omega)),_,rfl,w1.z,HU.z.1.2,HU.z.1.1, ?_⟩;exact ((HU.z.2.kept n0.z).put F0 i0.wS i0.gS (fun b hb=> .inl hb)).more fun b _ hb=>⟨i0.inT b hb,fun e=>hb (i0.wS b e.symm)⟩)
     have U1:Hid (∀b,zw (tBl g L) b→b≠g):=za (fun b hb e=>hb (by rw [e];exact mCs));clear Q1 P1 O1 q0;refine FR.wp_region_late (NR PC (g+1) 109 (zw (tBl g L)) w5.drew f0 PR (tq,y.2.1,y.1,y.2.2) g 45 (zM R.p (.slice (some ⟨ga,oa,none⟩) NL ca) f0 vd vc) 13) [15,18] 19 (by kernel_rfl) (by kernel_rfl) (by kernel_rfl) B0.z ?_;refine FR.mS (.pointer (some ⟨g,0,none⟩)) [] (fun vs w' hC=>FR.kD fun K hK=> ?_) ?_
     ·go_simp;exact hK _ _ rfl ⟨rfl,gRf⟩
     refine FR.mS (.pointer (some ⟨g,0,none⟩)) [] (fun vs w' hC=>FR.kD fun K hK=> ?_) ?_
     ·go_simp;exact hK _ _ rfl ⟨rfl,gRf⟩
     refine FR.mS (.pointer (some ⟨g,0,none⟩)) [(1,56)] (fun vs w' hC=>FR.pQ (FR.kD fun K hK=> ?_)) ?_
     ·go_simp;exact hK _ _ rfl ⟨rfl,gRf⟩
     refine FR.mS (.pointer (some ⟨g,13,none⟩)) [(2,57)] (fun vs w' hC=>FR.pQ (FR.kD fun K hK=> ?_)) ?_
     ·go_simp;exact hK _ _ rfl ⟨rfl,gRf⟩
     refine FR.LateR.monoN (FR.Qv.eq (f0)) [(3,58)] [0,1] (by kernel_rfl) (by rfl) (by kernel_rfl) (fun vs w' hq hC=> ?_) ?_
     ·intro x58 D1;have e58:x58= .pointer (some ⟨g,13,none⟩):=D1;clear D1;subst e58;refine FR.askl_do rfl fun K hK=> ?_
      have hC:TA _ _ _ _ _ _ _ _ _ _ _ _ vs w':=hC;obtain ⟨⟨l1,l2⟩,⟨l3,l4⟩,l5,l6⟩:=g0.z vs w' hC;have c4:w'.cell? ⟨g,13,none⟩=some f0:=(hC.1.bk0 (hq 1 (by simp))).cell 13;go_simp;exact hK _ _ rfl ⟨rfl,gRf⟩
     refine FR.mS (.pointer (some ⟨B,1,none⟩)) [] (fun vs w' hC=>FR.kD fun K hK=> ?_) ?_
     ·go_simp;exact hK _ _ rfl ⟨rfl,gRf⟩
     refine FR.mS (.int .i64 tq) [(5,60)] (fun vs w' hC=>FR.pQ (FR.kD fun K hK=> ?_)) ?_
     ·have hC:TA _ _ _ _ _ _ _ _ _ _ _ _ vs w':=hC;obtain ⟨⟨l1,l2⟩,⟨l3,l4⟩,l5,l6⟩:=g0.z vs w' hC;go_simp;exact hK _ _ rfl ⟨rfl,gRf⟩
     refine FR.mS (.pointer (some ⟨b5,1,none⟩)) [] (fun vs w' hC=>FR.kD fun K hK=> ?_) ?_
     ·go_simp;exact hK _ _ rfl ⟨rfl,gRf⟩
     refine FR.mS (.int .i64 y.2.1) [(7,62)] (fun vs w' hC=>FR.pQ (FR.kD fun K hK=> ?_)) ?_
     ·have hC:TA _ _ _ _ _ _ _ _ _ _ _ _ vs w':=hC;obtain ⟨⟨l1,l2⟩,⟨l3,l4⟩,l5,l6⟩:=g0.z vs w' hC;go_simp;exact hK _ _ rfl ⟨rfl,gRf⟩
     refine FR.mS (.pointer (some ⟨b5,0,none⟩)) [] (fun vs w' hC=>FR.kD fun K hK=> ?_) ?_
     ·go_simp;exact hK _ _ rfl ⟨rfl,gRf⟩
     refine FR.mS (.int .u8 y.1) [(9,64)] (fun vs w' hC=>FR.pQ (FR.kD fun K hK=> ?_)) ?_
     ·have hC:TA _ _ _ _ _ _ _ _ _ _ _ _ vs w':=hC;obtain ⟨⟨l1,l2⟩,⟨l3,l4⟩,l5,l6⟩:=g0.z vs w' hC;go_simp;exact hK _ _ rfl ⟨rfl,gRf⟩
     refine FR.mS (.pointer (some ⟨b5,2,none⟩)) [] (fun vs w' hC=>FR.kD fun K hK=> ?_) ?_
     ·go_simp;exact hK _ _ rfl ⟨rfl,gRf⟩
     refine FR.mS (.slice Au nu cu) [(11,66)] (fun vs w' hC=>FR.pQ (FR.kD fun K hK=> ?_)) ?_
     ·have hC:TA _ _ _ _ _ _ _ _ _ _ _ _ vs w':=hC;obtain ⟨⟨l1,l2⟩,⟨l3,l4⟩,l5,l6⟩:=g0.z vs w' hC;go_simp;exact hK _ _ rfl ⟨rfl,gRf⟩
     refine FR.mS (.agg #[.int .i64 tq, .int .i64 y.2.1, .int .u8 y.1, .slice Au nu cu]) [(6,61),(8,63),(10,65),(12,67)] (fun vs w' hC=>FR.pQ (FR.pQ (FR.pQ (FR.pQ (FR.kD fun K hK=> ?_))))) ?_
     ·go_simp;exact hK _ _ rfl ⟨rfl,gRf⟩
     refine FR.mV (DY w5.drew.heap.size 109 #[.int .i64 tq, .int .i64 y.2.1, .int .u8 y.1, .slice Au nu cu] X0.z.1 X0.z.2) [(13,68)] (fun vs w' hC=>FR.pQ (FR.kD fun K hK=> ?_)) ?_
     ·have hC:TA _ _ _ _ _ _ _ _ _ _ _ _ vs w':=hC;obtain ⟨⟨l1,l2⟩,⟨l3,l4⟩,l5,l6⟩:=g0.z vs w' hC;go_simp;exact hK _ _ rfl ⟨⟨_,rfl,l3,Bk.new w' _ _⟩,gAl w' _ none⟩
     refine FR.LateR.turn 0 [(4,59),(14,69)] (by kernel_rfl) [] rfl (by kernel_rfl) (fun vs w' hn hr hC=> ?_) ?_
     ·intro x59 C1;intro x69 h0;have h0: ∃b,x69= .slice (some ⟨b,0,none⟩) 1 1∧w5.drew.heap.size≤b∧Bk w' b 109 #[.int .i64 tq, .int .i64 y.2.1, .int .u8 y.1, .slice Au nu cu]:=h0;obtain ⟨b69,e69,k69,l69⟩:=h0;subst e69;have e59:x59=f0:=C1;clear C1;subst e59;refine FR.askl_do rfl fun K hK=> ?_
      have hC:TA _ _ _ _ _ _ _ _ _ _ _ _ vs w':=hC;obtain ⟨⟨l1,l2⟩,⟨l3,l4⟩,l5,l6⟩:=g0.z vs w' hC;refine TA.app hC hn It (cx:= [.int .i64 tq, .int .i64 y.2.1, .int .u8 y.1, .slice Au nu cu]) l6 (fun j u hu=>by rw [l69.cell j];simpa using hu) Z1.z l4 l5 (.tmp 59) (.tmp 69) rfl rfl rfl fun v' w2 hr=>hK _ _ rfl hr
     refine FR.mS (.pointer (some ⟨g,0,none⟩)) [(0,55)] (fun vs w' hC=>FR.pQ (FR.kD fun K hK=> ?_)) ?_
     ·go_simp;exact hK _ _ rfl ⟨rfl,gRf⟩
     refine FR.mS (.pointer (some ⟨g,13,none⟩)) [(16,71)] (fun vs w' hC=>FR.pQ (FR.kD fun K hK=> ?_)) ?_
     ·go_simp;exact hK _ _ rfl ⟨rfl,gRf⟩
     refine FR.LateR.turn 1 [(17,72),(15,70)] (by kernel_rfl) [] rfl (by kernel_rfl) (fun vs w' hn hr hC=> ?_) ?_
     ·intro x72 B1;intro x70 N0;have e72:x72= .pointer (some ⟨g,13,none⟩):=B1;clear B1;subst e72;refine FR.askl_do rfl fun K hK=> ?_
      have hC:TA _ _ _ _ _ _ _ _ _ _ _ _ vs w':=hC;have N0:(0,x70)∈vs:=N0;have hb:=hC.1.bk0 hn;exact UB (.tmp 72) (.tmp 70) rfl rfl rfl rfl (hC.1.shape N0) (hb.cell 13) (hb.free 13) (hK _ _ rfl (hC.put (u:=undef) hn N0 U1.z (Dh w' g 13 _) (hb.set 13 _)))
     intro vs w6 C0 L0;have L0:TA _ _ _ _ _ _ _ _ _ _ _ _ vs w6:=L0
     iterate 19 (refine pD ?_;intro _)
     have p0:Hid (TlW w R ds c0 vl (.slice (some ⟨ga,oa,none⟩) NL ca) vd vc g L (nn+3) ST B #[.int .i64 fr, .int .i64 tq, .int .u8 kd, .slice An mn cn] (.slice (some ⟨go,oo,none⟩) n co) b0 (d0++yz tq (b0.take (i+1))) w6):=za (by
      obtain ⟨a1,p1,p2,p3,p4⟩:=L0.fin C0.2;rw [E0.z];obtain ⟨t1,t2,t3,t4⟩:=H5.z;obtain ⟨S2,q1,q2,q3⟩:=(t1.kept n0.z).put p3 p4 p1 p2;exact ⟨S2,a1,q1,(t2.kept n0.z).put p3 t1.wS t1.gS q3,(t3.grown n0.z (by simp)).put t4 p3 t1.wS t1.gS,fun e=>by
       rcases q3 B e with e|e
       ·exact t4 e
       ·have:=(t3.grown n0.z (by simp)).lt
        omega⟩)
     clear C0 L0 g0 B0;show wpList _ _ _ _ _ _;refine wpList_nil ?_;simp only [Act.put,sAa,sAb,sAc];go_wp2_with fail;go_roundg (gk - 1)
     case measure=>omega
     case rel=>exact ⟨i+1,by omega,by go_num,p0⟩
end
section
open Go Go.RowKit Go.Shelf Go.Maps
theorem QP{fn:Func}{W:World}{B:Nat}{a b c d:Value}(hr:fn.results= #[.cell 4 109])(tmps:Array Value)(h2:tmps.getD 4 undef= .pointer (some ⟨B,0,none⟩))(hb:Bk W B 109 #[a,b,c,d]):(results fn tmps).run prog W= .ok (.agg #[a,b,c,d]) W:=by
 have r1:=run_loadVar_row (P:=prog) W B 109 109 #[a,b,c,d] (0,0) _ hb Tryz.underlying109 rfl (by kernel_rfl);have h2':tmps[4]?.getD undef= .pointer (some ⟨B,0,none⟩):=by simpa using h2
 simp [results,hr,h2',asAddr,r1]
structure TkP where
 D:World
 g:Nat
 Tb:List Nat
 rc:Value→Array Value
 vw:Value
 l1:List yB
 l2:List yB
namespace TkP
variable (t:TkP)
def Ac(V:World)(z:Value)(l:List yB):Prop:=Acc PC (t.g+1) 109 (zw t.Tb) V z l∧ ∃b,z.ownBlock=some b∧t.D.heap.size≤b
structure C (vs:List (Nat×Value)) (V:World):Prop where
 g0:2 ∉ vs.map (·.1)→t.D.grownBy V none∧Bk V t.g 45 (t.rc t.vw)
 g1:t.D.grownBy V (some t.g)
 a0:1 ∉ vs.map (·.1)→ ∀z,(0,z)∈vs→t.Ac V z t.l1
 a1: ∀z,(1,z)∈vs→t.Ac V z (t.l1++t.l2)
 u1: ∀z z',(1,z)∈vs→(1,z')∈vs→z=z'
 b2:2∈vs.map (·.1)→ ∀z,(1,z)∈vs→Bk V t.g 45 (t.rc z)
def Lt:FR.Lt where
 C:=t.C
 R q _ V V':=((q=0∨q=1)∧ ∃row,V.grownBy V' row∧ ∀b,row=some b→t.D.heap.size≤b)∨(q=2∧V.grownBy V' (some t.g))
 G w w':=w.grownBy w' none
 g:=fun h hg=>⟨fun e=>⟨(h.g0 e).1.trans hg,(h.g0 e).2.grown hg (by simp)⟩,h.g1.trans (yT hg),fun e z hz=>⟨((h.a0 e z hz).1).kept hg,(h.a0 e z hz).2⟩,fun z hz=>⟨((h.a1 z hz).1).kept hg,(h.a1 z hz).2⟩,h.u1,fun e z hz=>(h.b2 e z hz).grown hg (by simp)⟩
def fact(P:Value→Prop):FR.Qv t.Lt:=⟨fun _ v _=>P v,fun h _=>h,fun _ _ h=>h⟩
def mt:FR.Qv t.Lt:=⟨fun vs v w=>(0 ∉ vs.map (·.1)∧1 ∉ vs.map (·.1)∧2 ∉ vs.map (·.1))→t.Ac w v [],fun h hg e=>⟨(h e).1.kept hg,(h e).2⟩,fun {vs q u v w w'} _ hr _ e=>by
 simp only [List.map_append,List.map_cons,List.map_nil,List.mem_append,List.mem_singleton,not_or] at e;obtain ⟨⟨_,e0⟩,⟨_,e1⟩,⟨_,e2⟩⟩:=e;rcases hr with ⟨hr|hr,_⟩|⟨hr,_⟩
 ·exact absurd hr.symm e0
 ·exact absurd hr.symm e1
 ·exact absurd hr.symm e2⟩
variable {t} {vs:List (Nat×Value)} {V:World}
theorem app{xs ys:List yB}{q:Nat}(h:t.C vs V)(hn2:2 ∉ vs.map (·.1))(hq:q=0∧xs= []∧ys=t.l1∧1 ∉ vs.map (·.1)∧0 ∉ vs.map (·.1)∨q=1∧xs=t.l1∧ys=t.l2∧1 ∉ vs.map (·.1))(hg:t.g+1≤t.D.heap.size)(hN: ∀b,t.D.heap.size≤b→zw t.Tb b){v:Value}(ha:t.Ac V v xs)
  {A:Option Addr} {m c:Nat} (hys:Sl PC (fun b=>zw t.Tb b∧b< t.D.heap.size) V (.slice A m c) ys) (hlen:(xs.length+ys.length)*48≤140737488355328) {o:Oper} {a:Act} {K:Act→World→Prop} {Q:Exit→Act→World→Prop} (s x:Operand)
  (ho:o.op= .call {callee:= .builtin .append,args:= #[s,x],argTypes:= #[41,41]}) (hs:a.eval s=v) (hx:a.eval x= .slice A m c)
  (hK: ∀v' w',t.Lt.R q v' V w'∧t.C (vs++ [(q,v')]) w'→K (a.put o.dst v') w'):o.wp prog a V K Q:=by
 have hsz:=(h.g0 hn2).1.size;obtain ⟨b0,hb0,hb1⟩:=ha.2;have ha2: ∀b,v.ownBlock=some b→t.D.heap.size≤b:=fun b e=>by
  rw [hb0] at e;injection e with e
  omega
 refine Tm It ha.1 hys (fun cs y hr=>PC.more hr fun b hl hb=>⟨hb.1,fun e=>by have:=ha2 b e.symm;have:=hb.2;omega⟩) hlen (nLT hg hsz) (fun b hb=>hN b (nLT hsz hb)) s x ho hs hx fun v' w' k1 k2 k3=>hK v' w' ⟨.inl ⟨by rcases hq with ⟨rfl,_⟩|⟨rfl,_⟩<;>simp,_,k2,ha2⟩, ?_⟩
 have hown: ∃b,v'.ownBlock=some b∧t.D.heap.size≤b:=by
  rcases k3 with k3|⟨n,hn,k3⟩
  ·exact ⟨b0,by rw [k3];exact hb0,hb1⟩
  ·exact ⟨n,k3,nLT hsz hn⟩
 have hg0:t.D.grownBy w' none:=zz (h.g0 hn2).1 k2 ha2;have hbk:Bk w' t.g 45 (t.rc t.vw):=(h.g0 hn2).2.grown k2 (fun e=>by have:=ha2 _ e.symm;omega);have hq2:q≠2:=by rcases hq with ⟨rfl,_⟩|⟨rfl,_⟩<;>decide
 have n2:2 ∉ (vs++ [(q,v')]).map (fun z:Nat×Value=>z.1):=fun e=>by
  rw [lMa] at e;rcases List.mem_append.1 e with e|e
  ·exact hn2 e
  ·simp at e;exact hq2 e.symm
 refine ⟨fun _=>⟨hg0,hbk⟩,yT hg0,fun e z hz=> ?_,fun z hz=> ?_,fun z z' hz hz'=> ?_,fun e=>absurd e n2⟩
 ·rcases hq with ⟨rfl,rfl,rfl,_,h0⟩|⟨rfl,_⟩
  ·have e0:z=v':=yN hz h0;subst e0;exact ⟨k1,hown⟩
  ·exact absurd (by simp) e
 ·rcases hq with ⟨rfl,_,_,h1,_⟩|⟨rfl,rfl,rfl,h1⟩
  ·exact absurd (List.mem_map.2 ⟨_,ym hz (by decide),rfl⟩) h1
  ·have e0:z=v':=yN hz h1;subst e0;exact ⟨k1,hown⟩
 ·rcases hq with ⟨rfl,_⟩|⟨rfl,_,_,h1⟩
  ·exact h.u1 z z' (ym hz (by decide)) (ym hz' (by decide))
  ·rw [yN hz h1,yN hz' h1]
theorem put{u a1:Value}{V':World}(h:t.C vs V)(hT:t.g∈t.Tb)(hn:2 ∉ vs.map (·.1))(ha:(1,a1)∈vs)(hG:V.grownBy V' (some t.g))(hb:Bk V' t.g 45 (t.rc a1)):t.Lt.R 2 u V V'∧t.C (vs++ [(2,u)]) V':=by
 have keep: ∀{z l},t.Ac V z l→t.Ac V' z l:=fun k=>⟨k.1.keep hG fun b hb e=>hb (by injection e with e;rw [e];exact hT),k.2⟩
 refine ⟨.inr ⟨rfl,hG⟩,fun e=>absurd (by simp) e,h.g1.trans hG,fun e z hz=> ?_,fun z hz=>keep (h.a1 z (ym hz (by decide))),fun z z' hz hz'=>h.u1 z z' (ym hz (by decide)) (ym hz' (by decide)),fun _ z hz=> ?_⟩
 ·exact keep (h.a0 (fun e'=>e (by rw [lMa];exact mAl _ e')) z (ym hz (by decide)))
 ·rw [h.u1 z a1 (ym hz (by decide)) ha];exact hb
theorem fin(h:t.C vs V)(h0: ∀q,q< 3↔q∈vs.map (·.1)): ∃z,t.Ac V z (t.l1++t.l2)∧Bk V t.g 45 (t.rc z)∧t.D.grownBy V (some t.g):=by
 obtain ⟨⟨q,z⟩,hz,e⟩:=List.mem_map.1 ((h0 1).1 (by decide));dsimp only at e;subst e;exact ⟨z,h.a1 z hz,h.b2 ((h0 2).1 (by decide)) z hz,h.g1⟩
end TkP
section
variable {w W W':World} {R:Rmm} {ds:List Dl} {acts:List Ts} {vl va vd vc vw:Value} {g:Nat} {S:List Nat} {L:List (Nat×Nat)} {nn:Nat} {sts:Int→ASt} {way:List yB}
theorem Rw.less(h:Rw w R ds acts vl va vd vc g S L nn sts way vw W)(hg:W.grownBy W' none){b:Nat}(hb:W.heap.size≤b)(hb':b< W'.heap.size):Rw w R ds acts vl va vd vc g (b::S) L nn sts way vw W':=by
 have up: ∀{α:Type} {E:Enc α} {v:Value} {xs:List α},Sl E (zw S) W v xs→Sl E (zw (b::S)) W' v xs:=fun k=>(k.more fun c hl hc e=>by
  rcases List.mem_cons.1 e with e|e
  ·omega
  ·exact hc e).kept hg
 exact ⟨h.gr.trans hg,fun c hc=>by
  rcases List.mem_cons.1 hc with rfl|hc
  ·exact nLT h.gr.size hb
  ·exact h.sb c hc,h.rm.less hg hb hb',h.len,mCm _ h.gS,h.bk.grown hg (by simp),h.wy.kept hg,fun c e=>mCm _ (h.wS c e),up h.al,up h.ds,up h.cm,up h.ac⟩
theorem Rw.keepS(h:Rw w R ds acts vl va vd vc g S L nn sts way vw W){b:Nat}(hg:W.grownBy W' (some b))(hb:b∈S){cs:Array Value}(hbk:Bk W b 109 cs)(hwy:Acc PC (g+1) 109 (zw (tBl g L)) W' vw way):Rw w R ds acts vl va vd vc g S L nn sts way vw W':=by
 have up: ∀{α:Type} {E:Enc α} {v:Value} {xs:List α},Sl E (zw S) W v xs→Sl E (zw S) W' v xs:=fun k=>k.keep hg fun c hc e=>hc (by injection e with e;rw [e];exact hb)
 refine ⟨zz h.gr hg (fun c e=>by injection e with e;rw [←e];exact h.sb b hb),h.sb,h.rm.keep hg (fun c e=> ?_),h.len,h.gS,h.bk.grown hg (fun e=> ?_),hwy,h.wS,up h.al,up h.ds,up h.cm,up h.ac⟩
 ·injection e with e
  subst e;refine ⟨hb,fun i hi=> ?_⟩
  have:=hbk.neAv (h.rm.av i hi).2.1 (by decide)
  exact ⟨fun e=>this.1 e.symm,fun e=>this.2 e.symm⟩
 ·injection e with e
  subst e;have h1:=h.bk;unfold Bk at h1 hbk;rw [h1] at hbk;injection hbk with hbk
  injection hbk with _ k2 _
  exact absurd k2 (by decide)
end
attribute [local go_sem] Oper.semAt_some
theorem TF(w:World)(R:Rmm)(ds:List Dl)(acts:List Ts)(vl va vd vc:Value)(g:Nat)(S:List Nat)(L:List (Nat×Nat))(nn:Nat)(sts:Int→ASt)(way:List yB)(vw:Value)(W:World)(x:Int)(h:Rw w R ds acts vl va vd vc g S L nn sts way vw W)(hw:0< way.length∧way.length≤1000):
  Calls prog 39 #[.pointer (some ⟨g,0,none⟩), .int .i64 x] W fun e W'=> ∃(k:Nat) (hk:k< way.length) (v:Value) (S':List Nat) (i0:Value),e= .returned (.agg #[.int .i64 way[k].1, .int .i64 way[k].2.1, .int .u8 way[k].2.2.1,v])∧Sl ze (fun _=>True) W' v way[k].2.2.2∧(I64 way[k].1∧I64 way[k].2.1∧U8 way[k].2.2.1)∧Rw w R ds acts vl va vd vc g S' L nn sts (ZD way k) i0 W'∧ ∀b t cs,Bk W b t cs→zw S b→Bk W' b t cs∧zw S' b:=by
 obtain ⟨gw,cw,evw,K1,X0,J1,L0⟩:=h.wy.form0 hw.1;subst evw;obtain ⟨N,hN⟩:=exq (way.length);have H0:=za hN;rw [←hN] at h hw J1;obtain ⟨e1,Z1⟩:=hw;have d1:(N:Int)≠0:=by omega
 obtain ⟨k,A1,D1,B1⟩: ∃k:Nat,k< N∧IntKind.i64.wrap ((IntKind.u64.wrap x).tmod (N:Int))=(k:Int)∧IntKind.i64.wrap (IntKind.u64.wrap x%(N:Int))=(k:Int):=by
  have h0:0≤IntKind.u64.wrap x:=by rw [IntKind.wrap_u64];omega
  have r0:=Int.emod_nonneg (IntKind.u64.wrap x) d1;have r9:=Int.emod_lt_of_pos (IntKind.u64.wrap x) (show 0< (N:Int) by omega);have e:IntKind.i64.wrap (IntKind.u64.wrap x%(N:Int))=((IntKind.u64.wrap x%(N:Int)).toNat:Int):=by rw [i6n _ (by omega)];omega
  exact ⟨(IntKind.u64.wrap x%(N:Int)).toNat,by omega,by rw [Int.tmod_eq_emod_of_nonneg h0];exact e,e⟩
 have s1:IntKind.u64.wrap (N:Int)=(N:Int):=IntWalk.u64_in _ (by omega);have U1:(0:Int)≤(k:Int):=iNn k;have T1:(k:Int)< (N:Int):=by omega
 have b1:k< way.length:=by rw [←hN];exact A1
 have Z0:=za b1;obtain ⟨gw',ow',cw',u,ew,H1,F1,⟨F0,D0,s0,M0⟩,hI,B0⟩:=h.wy.sl.atM Z0.z;injection ew with ew1 ew2 ew3
 injection ew1 with ew1
 injection ew1 with ew1 ew4 ew5
 subst ew1 ew4;clear ew2 ew3 ew5;rw [Nat.zero_add] at F0 D0 s0 M0;obtain ⟨y,hy⟩:=exq (way[k]'Z0.z);have T0:=za hy;rw [←hy] at F0 D0 s0 hI B0;have p0:Sl ze (fun b=>zw (tBl g L) b∧b< W.heap.size) W u y.2.2.2:=B0.bounded;obtain ⟨Au,nu,cu,rfl⟩:=B0.shape;obtain ⟨W1,v0⟩:=exq (W.alloc (Obj.cells #[.int .i64 0, .int .i64 0, .int .u8 0, .slice none 0 0] 109));obtain ⟨B4,f0⟩:=exq (W.heap.size);obtain ⟨W2,u0⟩:=exq (W1.alloc (Obj.cells #[.int .i64 y.1, .int .i64 y.2.1, .int .u8 y.2.2.1, .slice Au nu cu] 109));obtain ⟨B6,N0⟩:=exq (W1.heap.size);have W0:W1.heap.size=W.heap.size+1:=by rw [v0];exact World.size_alloc _ _
 have d0:W.grownBy W1 none:=by rw [v0];exact gAl _ _ none
 have o0:W1.grownBy W2 none:=by rw [u0];exact gAl _ _ none
 have j0:Hid (Rw w R ds acts vl va vd vc g (B4::S) L nn sts way (.slice (some ⟨gw,0,none⟩) N cw) W2):=za ((h.less d0 (by rw [f0];exact nRf _) (by rw [f0,W0];exact Nat.lt_succ_self _)).kept o0);have w0:Hid (Bk W2 B4 109 #[.int .i64 0, .int .i64 0, .int .u8 0, .slice none 0 0]):=za (by rw [f0,u0];exact Bk.alloc (by rw [v0];exact Bk.new _ _ _) _);have e0:Hid (Bk W2 B6 109 #[.int .i64 y.1, .int .i64 y.2.1, .int .u8 y.2.2.1, .slice Au nu cu]∧zw (B4::S) B6):=za ⟨by rw [u0,N0];exact Bk.new _ _ _,fun e=>by
  rcases List.mem_cons.1 e with e|e
  ·omega
  ·have:=h.rm.sz B6 e;omega⟩
 have U0:Hid (Sl PC (zw (B4::tBl g L)) W2 (.slice (some ⟨gw,0,none⟩) N cw) way):=za (((h.wy.sl.more (Y:=zw (B4::tBl g L)) fun b hl hb e=>by
  rcases List.mem_cons.1 e with e|e
  ·omega
  ·exact hb e).kept d0).kept o0)
 have q1:Hid (W.grownBy W2 none∧B4=W.heap.size):=za ⟨d0.trans o0,f0⟩;have V0:Hid (Sl ze (fun b=>zw (tBl g L) b∧b< B4) W2 (.slice Au nu cu) y.2.2.2∧(I64 y.1∧I64 y.2.1∧U8 y.2.2.1)):=za ⟨by rw [f0];exact (p0.kept d0).kept o0,hI⟩;have N1:Hid (B4< W2.heap.size∧gw< B4):=za ⟨by rw [f0];have:=o0.size;omega,by rw [f0];exact X0⟩;have G1:=(h.bk.grown d0 (by simp)).rule;have ca:W1.cell? ⟨gw,k*4,none⟩=some (.int .i64 y.1):=d0.cell F0 (by simp);have cb:W1.cell? ⟨gw,k*4+1,none⟩=some (.int .i64 y.2.1):=d0.cell D0 (by simp);have cc:W1.cell? ⟨gw,k*4+2,none⟩=some (.int .u8 y.2.2.1):=d0.cell s0 (by simp);have cd:W1.cell? ⟨gw,k*4+3,none⟩=some (.slice Au nu cu):=d0.cell M0 (by simp);clear F0 D0 s0 M0;clear h B0 p0 H1 F1 hI hN hy W0 d0 o0 b1 K1 X0;go_enter func39,ntmps39;go_upto_region 1 with (fail)
 rw [←v0, ←f0];clear v0 f0;go_upto_region 3 with (fail)
 rw [←u0, ←N0];clear u0 N0 ca cb cc cd;have n0:W2.grownBy W2.drew none:=zb W2 1;have l0:=za n0;obtain ⟨T,c0⟩: ∃T:TkP,T=⟨W2.drew,g,B4::tBl g L,fun z=>zM R.p va z vd vc,(.slice (some ⟨gw,0,none⟩) N cw),way.take k,way.drop (k+1)⟩:=⟨_,rfl⟩;have HT:=za c0;have r1:Hid (T.Lt.C [] W2.drew):=za (by
  subst c0;exact ⟨fun _=>⟨gRr _ _,j0.z.bk.grown n0 (by simp)⟩,gRr _ _,fun _ z hz=>(by cases hz),fun z hz=>(by cases hz),fun z z' hz=>(by cases hz),fun e=>(by simp at e)⟩)
 have m0:Hid (T.g+1≤T.D.heap.size∧ ∀b,T.D.heap.size≤b→zw T.Tb b):=za (by
  subst c0;have hl:=j0.z.bk.lt;have hs:=n0.size;exact ⟨by show g+1≤W2.drew.heap.size;omega,fun b (hb:W2.drew.heap.size≤b) e=>by
   rcases List.mem_cons.1 e with e|e
   ·have:=N1.z.1;omega
   ·exact j0.z.inT b (j0.z.free (nLT hs hb)) e⟩)
 have Y0:Hid ((T.l1.length≤1000∧T.l2.length≤1000)):=za (by
  subst c0;refine ⟨?_, ?_⟩
  ·show (way.take k).length≤1000;rw [lLt];omega
  ·show (way.drop (k+1)).length≤1000;rw [List.length_drop, ←H0.z];omega)
 have p1:Hid (∀V,T.D.grownBy V none→Sl PC (fun b=>zw T.Tb b∧b< T.D.heap.size) V (.slice (some ⟨gw,0,none⟩) k cw) T.l1):=za (fun V hV=>by
  subst c0;have h1:=(U0.z.kept n0).bounded.take k (by rw [←H0.z];omega);exact h1.kept hV)
 have o1:Hid (∀V,T.D.grownBy V none→ ∀A c,(A=some ⟨gw,(k+1)*4,none⟩∧c=cw - (k+1))∨(N - (k+1)=0∧c≤9223372036854775807)→Sl PC (fun b=>zw T.Tb b∧b< T.D.heap.size) V (.slice A (N - (k+1)) c) T.l2):=za (fun V hV A c hA=>by
  subst c0;rcases hA with ⟨rfl,rfl⟩|⟨h0,hc⟩
  ·have h1:=(U0.z.kept n0).bounded.drop (k+1) (by rw [←H0.z];omega);rw [Nat.zero_add] at h1;exact h1.kept hV
  ·have e:way.drop (k+1)= []:=List.drop_eq_nil_of_le (by rw [←H0.z];omega);rw [h0];show Sl PC _ V _ (way.drop (k+1));rw [e];exact Sl.empty _ _ _ _ _ hc)
 have A0:Hid (∀vs V a1,T.Lt.C vs V→2 ∉ vs.map (·.1)→(1,a1)∈vs→(∃A n c,a1= .slice A n c)∧V.cell? ⟨g,13,none⟩=some (.slice (some ⟨gw,0,none⟩) N cw)∧V.frozen? ⟨g,13,none⟩=false∧T.Lt.R 2 undef V (V.setCell ⟨g,13,none⟩ a1)∧T.Lt.C (vs++ [(2,undef)]) (V.setCell ⟨g,13,none⟩ a1)):=za (fun vs V a1 hC hn ha=>by
  subst c0;have hb:=(TkP.C.g0 hC hn).2;have h1:=(TkP.C.a1 hC a1 ha).1.sl.shape;have h2:=TkP.put (u:=undef) hC (mCm _ mCs) hn ha (Dh V g 13 a1) (hb.set 13 a1);exact ⟨h1,hb.cell 13,hb.free 13,h2.1,h2.2⟩)
 have I0:Hid (∀vs V,T.Lt.C vs V→(2 ∉ vs.map (·.1)→V.cell? ⟨g,13,none⟩=some (.slice (some ⟨gw,0,none⟩) N cw))∧T.D.heap.size≤V.heap.size):=za (fun vs V hC=>by
  subst c0;exact ⟨fun hn=>(TkP.C.g0 hC hn).2.cell 13,(TkP.C.g1 hC).size⟩)
 have S1:(k:Int)≤(cw:Int):=by omega
 have v1:(k:Int)+1≤(cw:Int):=by omega
 have C1:(k:Int)+1≤(N:Int):=by omega
 have J0:IntKind.i64.wrap ((k:Int)+1)=(k:Int)+1:=i6n _ (by omega);have I1:cw≤9223372036854775807:=L0;clear c0 n0 G1 D1 B1 s1 d1;refine FR.wp_region_late T.Lt [8,16,19] 20 (by kernel_rfl) (by kernel_rfl) (by kernel_rfl) r1.z ?_;refine FR.mS (.pointer (some ⟨g,0,none⟩)) [] (fun vs w' hC=>FR.kD fun K hK=> ?_) ?_
 ·go_simp;exact hK _ _ rfl ⟨rfl,gRf⟩
 refine FR.mV (TkP.mt T) [] (fun vs w' hC=>FR.kD fun K hK=> ?_) ?_
 ·have hC:T.Lt.C vs w':=hC;have l2:=(I0.z vs w' hC).2;go_simp;exact hK _ _ rfl ⟨fun _=>⟨Acc.made PC w' _ (nLT m0.z.1 l2) _ (m0.z.2 _ l2),_,rfl,l2⟩,gAl w' _ none⟩
 refine FR.mS (.pointer (some ⟨g,0,none⟩)) [] (fun vs w' hC=>FR.kD fun K hK=> ?_) ?_
 ·go_simp;exact hK _ _ rfl ⟨rfl,gRf⟩
 refine FR.mS (.pointer (some ⟨g,0,none⟩)) [(2,26)] (fun vs w' hC=>FR.pQ (FR.kD fun K hK=> ?_)) ?_
 ·go_simp;exact hK _ _ rfl ⟨rfl,gRf⟩
 refine FR.mS (.pointer (some ⟨g,13,none⟩)) [(3,27)] (fun vs w' hC=>FR.pQ (FR.kD fun K hK=> ?_)) ?_
 ·go_simp;exact hK _ _ rfl ⟨rfl,gRf⟩
 refine FR.LateR.monoN (FR.Qv.eq (.slice (some ⟨gw,0,none⟩) N cw)) [(4,28)] [2] (by kernel_rfl) (by rfl) (by kernel_rfl) (fun vs w' hq hC=> ?_) ?_
 ·intro x28 n1;have e28:x28= .pointer (some ⟨g,13,none⟩):=n1;clear n1;subst e28;refine FR.askl_do rfl fun K hK=> ?_
  have hC:T.Lt.C vs w':=hC;have l1:=(I0.z vs w' hC).1 (hq 2 (by simp));go_simp;exact hK _ _ rfl ⟨rfl,gRf⟩
 refine FR.mS (.int .i64 k) [] (fun vs w' hC=>FR.kD fun K hK=> ?_) ?_
 ·go_simp;exact hK _ _ rfl ⟨rfl,gRf⟩
 refine FR.mS (.slice (some ⟨gw,0,none⟩) k cw) [(5,29),(6,30)] (fun vs w' hC=>FR.pQ (FR.pQ (FR.kD fun K hK=> ?_))) ?_
 ·go_simp;exact hK _ _ rfl ⟨rfl,gRf⟩
 refine FR.LateR.turnN 0 [(1,25),(7,31)] (by kernel_rfl) [] [1,2] rfl (by kernel_rfl) (by kernel_rfl) (fun vs w' hn hr hq hC=> ?_) ?_
 ·intro x25 S0;have S0:(0 ∉ vs.map (·.1)∧1 ∉ vs.map (·.1)∧2 ∉ vs.map (·.1))→T.Ac w' x25 []:=S0;intro x31 j1;have e31:x31= .slice (some ⟨gw,0,none⟩) k cw:=j1;clear j1;subst e31;refine FR.askl_do rfl fun K hK=> ?_
  have hC:T.Lt.C vs w':=hC;refine TkP.app hC (hq 2 (by simp)) (.inl ⟨rfl,rfl,rfl,hq 1 (by simp),hn⟩) m0.z.1 m0.z.2 (S0 ⟨hn,hq 1 (by simp),hq 2 (by simp)⟩) (p1.z w' (hC.g0 (hq 2 (by simp))).1) (by have:=Y0.z;simp only [List.length_nil];omega) (.tmp 25) (.tmp 31) rfl rfl rfl fun v' w2 hr=>hK _ _ rfl hr
 refine FR.mS (.pointer (some ⟨g,0,none⟩)) [] (fun vs w' hC=>FR.kD fun K hK=> ?_) ?_
 ·go_simp;exact hK _ _ rfl ⟨rfl,gRf⟩
 refine FR.mS (.pointer (some ⟨g,0,none⟩)) [(9,33)] (fun vs w' hC=>FR.pQ (FR.kD fun K hK=> ?_)) ?_
 ·go_simp;exact hK _ _ rfl ⟨rfl,gRf⟩
 refine FR.mS (.pointer (some ⟨g,13,none⟩)) [(10,34)] (fun vs w' hC=>FR.pQ (FR.kD fun K hK=> ?_)) ?_
 ·go_simp;exact hK _ _ rfl ⟨rfl,gRf⟩
 refine FR.LateR.monoN (FR.Qv.eq (.slice (some ⟨gw,0,none⟩) N cw)) [(11,35)] [2] (by kernel_rfl) (by rfl) (by kernel_rfl) (fun vs w' hq hC=> ?_) ?_
 ·intro x35 i1;have e35:x35= .pointer (some ⟨g,13,none⟩):=i1;clear i1;subst e35;refine FR.askl_do rfl fun K hK=> ?_
  have hC:T.Lt.C vs w':=hC;have l1:=(I0.z vs w' hC).1 (hq 2 (by simp));go_simp;exact hK _ _ rfl ⟨rfl,gRf⟩
 refine FR.mS (.int .i64 k) [] (fun vs w' hC=>FR.kD fun K hK=> ?_) ?_
 ·go_simp;exact hK _ _ rfl ⟨rfl,gRf⟩
 refine FR.mS (.int .i64 ((k:Int)+1)) [(13,37)] (fun vs w' hC=>FR.pQ (FR.kD fun K hK=> ?_)) ?_
 ·go_simp;exact hK _ _ rfl ⟨(by first|rfl|simp [J0]),gRf⟩
 refine FR.mV (TkP.fact T (fun v=> ∃A c,v= .slice A (N - (k+1)) c∧((A=some ⟨gw,(k+1)*4,none⟩∧c=cw - (k+1))∨(N - (k+1)=0∧c≤9223372036854775807)))) [(12,36),(14,38)] (fun vs w' hC=>FR.pQ (FR.pQ (FR.kD fun K hK=> ?_))) ?_
 ·by_cases s0:cw=k+1
  ·have Y1: ¬((k:Int)+1< (cw:Int)):=by omega
   go_simp;exact hK _ _ rfl ⟨⟨_,_,by first|rfl|(congr 1;omega), .inr ⟨by omega,by omega⟩⟩,gRf⟩
  ·go_simp;exact hK _ _ rfl ⟨⟨_,_,by first|rfl|(congr 1;omega), .inl ⟨by first|rfl|simp,by omega⟩⟩,gRf⟩
 refine FR.LateR.turnN 1 [(8,32),(15,39)] (by kernel_rfl) [] [2] rfl (by kernel_rfl) (by kernel_rfl) (fun vs w' hn hr hq hC=> ?_) ?_
 ·intro x32 R0;intro x39 Q0;have Q0: ∃A c,x39= .slice A (N - (k+1)) c∧((A=some ⟨gw,(k+1)*4,none⟩∧c=cw - (k+1))∨(N - (k+1)=0∧c≤9223372036854775807)):=Q0;obtain ⟨A39,c39,e39,f39⟩:=Q0;subst e39;refine FR.askl_do rfl fun K hK=> ?_
  have hC:T.Lt.C vs w':=hC;have R0:(0,x32)∈vs:=R0;refine TkP.app hC (hq 2 (by simp)) (.inr ⟨rfl,rfl,rfl,hn⟩) m0.z.1 m0.z.2 (hC.a0 hn _ R0) (o1.z w' (hC.g0 (hq 2 (by simp))).1 _ _ f39) (by have:=Y0.z;omega) (.tmp 32) (.tmp 39) rfl rfl rfl fun v' w2 hr=>hK _ _ rfl hr
 refine FR.mS (.pointer (some ⟨g,0,none⟩)) [(0,24)] (fun vs w' hC=>FR.pQ (FR.kD fun K hK=> ?_)) ?_
 ·go_simp;exact hK _ _ rfl ⟨rfl,gRf⟩
 refine FR.mS (.pointer (some ⟨g,13,none⟩)) [(17,41)] (fun vs w' hC=>FR.pQ (FR.kD fun K hK=> ?_)) ?_
 ·go_simp;exact hK _ _ rfl ⟨rfl,gRf⟩
 refine FR.LateR.turn 2 [(18,42),(16,40)] (by kernel_rfl) [] rfl (by kernel_rfl) (fun vs w' hn hr hC=> ?_) ?_
 ·intro x42 f1;intro x40 P0;have e42:x42= .pointer (some ⟨g,13,none⟩):=f1;clear f1;subst e42;refine FR.askl_do rfl fun K hK=> ?_
  have hC:T.Lt.C vs w':=hC;have P0:(1,x40)∈vs:=P0;obtain ⟨l1,l2,l3,l4⟩:=A0.z vs w' _ hC hn P0;exact UB (.tmp 42) (.tmp 40) rfl rfl rfl rfl l1 l2 l3 (hK _ _ rfl l4)
 intro vs w6 E0 G0;have G0:T.Lt.C vs w6:=G0;intro y0 k0 y1 k1 y2 k2
 iterate 17 (refine pD ?_;intro _)
 have H6:Hid (∃i0,Rw w R ds acts vl va vd vc g (B4::S) L nn sts way (.slice (some ⟨gw,0,none⟩) N cw) W2.drew∧Acc PC (g+1) 109 (zw (B4::tBl g L)) w6 i0 (ZD way k)∧(∃b,i0.ownBlock=some b∧W2.drew.heap.size≤b)∧Bk w6 g 45 (zM R.p va i0 vd vc)∧W2.drew.grownBy w6 (some g)):=za (by
  have c0:=HT.z;subst c0;obtain ⟨z,⟨z1,z2⟩,z3,z4⟩:=TkP.fin G0 E0.2;exact ⟨z,j0.z.kept l0.z,z1,z2,z3,z4⟩)
 clear k0 k1 k2 E0 G0 A0 I0 p1 o1 m0 Y0 r1 HT;obtain ⟨i0,t1,t2,t3,t4,t5⟩:=H6.z;have C0:yC (Value.ownBlock (.slice (some ⟨gw,0,none⟩) N cw)) (some g) W2.drew w6:=⟨t5.os,t5.tape,t5.output,t5.size,fun i hi _ h2=>t5.block i hi h2⟩;obtain ⟨S3,u1,u2,u3⟩:=t1.put C0 (by obtain ⟨b,hb,M1⟩:=t3;exact .inr ⟨b,M1,hb⟩) (t2.more fun b _ hb e=>hb (mCm _ e)) t4;have b0:Bk w6 B4 109 #[.int .i64 0, .int .i64 0, .int .u8 0, .slice none 0 0]:=(w0.z.grown l0.z (by simp)).grown t5 (fun e=>by
  injection e with e
  subst e;have h1:=j0.z.bk;have h2:=w0.z;unfold Bk at h1 h2;rw [h1] at h2;injection h2 with h2
  injection h2 with _ k2 _
  exact absurd k2 (by decide))
 have c1:Bk w6 B6 109 #[.int .i64 y.1, .int .i64 y.2.1, .int .u8 y.2.2.1, .slice Au nu cu]:=(e0.z.1.grown l0.z (by simp)).put e0.z.2 C0 t1.wS t1.gS;obtain ⟨w7,K0⟩:=exq ((((w6.setCell ⟨B4,0,none⟩ (.int .i64 y.1)).setCell ⟨B4,1,none⟩ (.int .i64 y.2.1)).setCell ⟨B4,2,none⟩ (.int .u8 y.2.2.1)).setCell ⟨B4,3,none⟩ (.slice Au nu cu));have q0:w6.grownBy w7 (some B4):=by rw [K0];exact (((zD _ _ 0 _).trans (zD _ _ 1 _)).trans (zD _ _ 2 _)).trans (zD _ _ 3 _)
 have O1:Hid (Bk w7 B4 109 #[.int .i64 y.1, .int .i64 y.2.1, .int .u8 y.2.2.1, .slice Au nu cu]):=za (by rw [K0];exact (((b0.set 0 _).set 1 _).set 2 _).set 3 _);have z0:B4∈S3:=u2 B4 mCs;have O0:zw (tBl g L) B4:=fun e=>by
  rcases List.mem_cons.1 e with e|e
  ·have h1:=t4;rw [e] at b0;unfold Bk at h1 b0;rw [h1] at b0;injection b0 with b0
   injection b0 with _ k2 _
   exact absurd k2 (by decide)
  ·have x0: ∀i (hi:i< L.length),B4≠L[i].1∧B4≠L[i].2:=fun i hi=>b0.neAv (u1.rm.av i hi).2.1 (by decide)
   rcases List.mem_append.1 e with e|e
   ·obtain ⟨x,hx,ex⟩:=List.mem_map.1 e;obtain ⟨i,hi,rfl⟩:=List.mem_iff_getElem.1 hx;exact (x0 i hi).1 ex.symm
   ·obtain ⟨x,hx,ex⟩:=List.mem_map.1 e;obtain ⟨i,hi,rfl⟩:=List.mem_iff_getElem.1 hx;exact (x0 i hi).2 ex.symm
 have HF:Hid (Sl ze (fun _=>True) w7 (.slice Au nu cu) y.2.2.2∧(I64 y.1∧I64 y.2.1∧U8 y.2.2.1)∧Rw w R ds acts vl va vd vc g S3 L nn sts (ZD way k) i0 w7∧ ∀b t cs,Bk W b t cs→zw S b→Bk w7 b t cs∧zw S3 b):=za (by
  obtain ⟨g1,g2⟩:=q1.z;refine ⟨?_,V0.z.2,u1.keepS q0 z0 b0 ((t2.keep q0 fun b hb e=>hb (by injection e with e;rw [e];exact mCs)).more fun b _ hb e=>hb (mCm _ e)),fun b t cs hb L1=> ?_⟩
  ·exact (((V0.z.1.kept l0.z).keep t5 (fun b hb e=>hb.1 (by injection e with e;rw [e];exact mCs))).keep q0 (fun b hb e=>by injection e with e;have:=hb.2;omega)).more fun _ _ _=>trivial
  ·have R1:=hb.lt;have t0:zw (B4::S) b:=fun e=>by
    rcases List.mem_cons.1 e with e|e
    ·omega
    ·exact L1 e
   refine ⟨((((hb.grown g1 (by simp)).grown l0.z (by simp)).put t0 C0 t1.wS t1.gS)).grown q0 (fun e=>by injection e with e;omega),fun e=> ?_⟩;rcases u3 b e with e|e
   ·exact t0 e
   ·have h1:=g1.size;have h2:=l0.z.size;omega)
 have P1:=c1.rule;have Q1:=b0.rule;have V1:=b0.free;clear t1 t2 t3 t4 t5 u1 u2 u3 C0 q0 z0 O0 b0 c1 H6 V0 q1 U0 j0 w0 e0 l0;show wpList _ _ _ _ _ _;refine wpList_nil ?_;simp only [Act.put,sAa,sAb,sAc];go_wp2_with fail;rw [←K0];exact ⟨rfl,_,QP rfl _ rfl O1.z,k,Z0.z,_,S3,i0,by rw [←T0.z],by rw [←T0.z];exact HF.z.1,by rw [←T0.z];exact HF.z.2.1,HF.z.2.2⟩
end
section
open Go.ChangeShapes Go.WideShapes Go.RowKit
def Fk:Enc Int where
 size:=1
 pos:=by decide
 rep:=fun _ _ cs x=>cs= [.int .u8 x]∧U8 x
 len:=fun h=>by obtain ⟨rfl,_⟩:=h;rfl
 ones:=fun h u hu=>by obtain ⟨rfl,_⟩:=h;simp at hu;subst hu;rfl
 keep:=fun h _ _=>h
 more:=fun h _=>h
 keepc:=fun h _ _=>h
theorem Sl.atB{X:Nat→Prop}{w:World}{v:Value}{xs:List Int}(h:Sl Fk X w v xs){k:Nat}(hk:k< xs.length):
  ∃g o c,v= .slice (some ⟨g,o,none⟩) xs.length c∧g< w.heap.size∧X g∧w.cell? ⟨g,o+k,none⟩=some (.int .u8 xs[k])∧U8 xs[k]:=by
 obtain ⟨g,o,c,cs,e,hg,hX,⟨rfl,hu⟩,hc⟩:=h.at hk;have h0:=hc 0 _ rfl;rw [show Fk.size=1 from rfl,Nat.mul_one] at h0;exact ⟨g,o,c,e,hg,hX,h0,hu⟩
theorem EG{t:TypeId}(ht:Tryz.prog.underlying t=some (.int .u8)):Oj Fk t:=by
 intro H enc w base spare held fuel cs x h;obtain ⟨n,rfl,_,hw⟩:=DataW.trod_int ht h;exact ⟨n,rfl,Gf hw⟩
theorem TN:Ub (zh Fk) 23 (fun _=>True):=Oj.z (GJ Tryz.underlying23 (EG Tryz.underlying5) PQ)
theorem PS:Tryz.prog.cellsOf 33=7:=by kernel_rfl
theorem TH{α:Type}: ∀{l:List α},l.length=7→ ∃a b c d e f g,l= [a,b,c,d,e,f,g]
 | [a,b,c,d,e,f,g],_=>⟨a,b,c,d,e,f,g,rfl⟩
theorem OI:Ub Yc 33 (fun d=>d.2.2.2.2.2.2.length≤17592186044415):=by
 intro H enc w base spare held fuel cs x h hz;obtain ⟨xs,n,_,hx,hl,hlen,hf⟩:=DataW.trod_struct Tryz.underlying33 h;rw [PS] at hl;obtain ⟨y0,y1,y2,y3,y4,y5,y6,rfl⟩:=TH hlen;obtain ⟨c0,c1,c2,c3,c4,c5,c6,rfl⟩:=TH hl;have g0:=hf 0 _ rfl;have g1:=hf 1 _ rfl;have g2:=hf 2 _ rfl;have g3:=hf 3 _ rfl;have g4:=hf 4 _ rfl;have g5:=hf 5 _ rfl;have g6:=hf 6 _ rfl;simp [PQ,LU,Nn] at g0 g1 g2 g3 g4 g5 g6;obtain ⟨a0,e0,_,w0⟩:=DataW.trod_int Tryz.underlying5 g0;obtain ⟨a1,e1,_,w1⟩:=DataW.trod_int Tryz.underlying3 g1;obtain ⟨a2,e2,_,w2⟩:=DataW.trod_int Tryz.underlying3 g2;obtain ⟨a3,e3,_,w3⟩:=DataW.trod_int Tryz.underlying3 g3;obtain ⟨a4,e4,_,w4⟩:=DataW.trod_int Tryz.underlying5 g4;obtain ⟨a5,e5,_,w5⟩:=DataW.trod_int Tryz.underlying5 g5;have hz6: ∀b∈y6.1.weights prog 31,b≤reachBytes:=fun b hb=>hz b (by
  rw [hx];show b∈DataW.weights prog 33 (.agg [y0.1,y1.1,y2.1,y3.1,y4.1,y5.1,y6.1]);rw [DataW.weights,Tryz.underlying33];show b∈_++(_++(_++(_++(_++(_++(_++_))))));exact mAr _ (mAr _ (mAr _ (mAr _ (mAr _ (mAr _ (mAl _ hb)))))))
 obtain ⟨l,⟨v,e6,hs⟩,hG⟩:=OH g6 hz6;simp at e0 e1 e2 e3 e4 e5 e6;subst e0 e1 e2 e3 e4 e5 e6;exact ⟨(a0,a1,a2,a3,a4,a5,l),⟨_,rfl,⟨Gf w0,If w1,If w2,If w3,Gf w4,Gf w5⟩,hs⟩,hG.1⟩
theorem UI:Ub (zh Yc) 24 (LG fun d=>d.2.2.2.2.2.2.length≤17592186044415):=QR Tryz.underlying24 OI PS (of_decide_eq_true (by kernel_rfl))
end
end Go.Proofs.YtkdfjkdphdfclaaGreatDoor
