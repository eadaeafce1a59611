/- Proves for the statement AvssNamesCardSaid, under no other condition than the statement's own, that the card avssNames holds of the program. Part 10. -/
import Derived.Test.YtkdfjkdphdfclaaGreatDoorZ9
set_option maxRecDepth 100000
set_option maxHeartbeats 16000000
set_option linter.unusedVariables false
set_option linter.unusedSimpArgs false
namespace Go.Proofs.YtkdfjkdphdfclaaGreatDoor
namespace FR
open Go
structure Lt where
 C:List (Nat×Value)→World→Prop
 R:Nat→Value→World→World→Prop
 G:World→World→Prop
 g: ∀{vs w w'},C vs w→G w w'→C vs w'
structure Qv (L:Lt) where
 p:List (Nat×Value)→Value→World→Prop
 st: ∀{vs v w w'},p vs v w→L.G w w'→p vs v w'
 sr: ∀{vs q u v w w'},L.C vs w→L.R q u w w'→p vs v w→p (vs++ [(q,u)]) v w'
def Qv.any{L:Lt}:Qv L:=⟨fun _ _ _=>True,fun _ _=>trivial,fun _ _ _=>trivial⟩
def Qv.eq{L:Lt}(u:Value):Qv L:=⟨fun _ v _=>v=u,fun h _=>h,fun _ _ h=>h⟩
def Qv.slot{L:Lt}(q:Nat):Qv L:=⟨fun vs v _=>(q,v)∈vs,fun h _=>h,fun _ _ h=>List.mem_append_left _ h⟩
section
variable {L:Lt} {late:List Nat} {P:Program} {ops:Array Oper} {Q:Exit→Act→World→Prop} {n:Nat} {a0:Act} {w0:World}
def yt(T:Value→World→Prop)(dst:Option Tmp)(ds:List Deferred):Exit→Act→World→Prop:=fun e a' w'=>e= .normal∧a'.defers=ds∧T (match dst with|some d=>a'.eval (.tmp d)|none=>undef) w'
def XY(P:Program)(ops:Array Oper)(vs:List (Nat×Value))(Vs:List (Qv L))(Qt:Exit→Act→World→Prop)(o:Oper)(w:World):List (Nat×Tmp)→Act→Prop
 | [],a=>wpList P ops Qt [o] a w
 |(j,d)::js,a=> ∀x,(Vs.getD j Qv.any).p vs x w→XY P ops vs Vs Qt o w js (a.put (some d) x)
def nqB(ops:Array Oper)(late:List Nat)(n i:Nat)(nq:List Nat):Bool:=nq.all fun q=>match late[q]? with|some k=> !av ops i n k|none=>false
def Fr(L:Lt)(late:List Nat)(P:Program)(ops:Array Oper)(n:Nat)(Vs:List (Qv L))(ds:List Deferred)(i:Nat)(V:Qv L)(o:Oper)(js:List (Nat×Tmp))(a0:Act):Prop:=
 (late.contains i=false∧ ∃nq:List Nat,nqB ops late n i nq=true∧ ∀vs w,(∀x∈nq,x ∉ vs.map (·.1))→L.C vs w→XY P ops vs Vs (yt (fun v w'=>V.p vs v w'∧L.G w w') o.dst ds) o w js a0)∨
 (∃(q:Nat) (rq nq:List Nat),late[q]? =some i∧(rq.all fun x=>match late[x]? with|some k=>Region.waitsFor .any ops i k|none=>false)=true∧nqB ops late n i nq=true∧V=Qv.slot q∧ ∀vs w,q ∉ vs.map (·.1)→(∀x∈rq,x∈vs.map (·.1))→(∀x∈nq,x ∉ vs.map (·.1))→L.C vs w→XY P ops vs Vs (yt (fun v w'=>L.R q v w w'∧L.C (vs++ [(q,v)]) w') o.dst ds) o w js a0)
def LateR(L:Lt)(late:List Nat)(P:Program)(ops:Array Oper)(n:Nat)(a0:Act)(F:List (Qv L)→Prop):Nat→List (Qv L)→List Oper→Prop
 |0,Rs,_=>F Rs.reverse
 |_+1,_, []=>False
 |k+1,Rs,o::os=> ∃(V:Qv L) (js:List (Nat×Tmp)),(yh ops Rs.length js && zZ ops n Rs.length js)=true∧Fr L late P ops n Rs.reverse a0.defers Rs.length V o js a0∧LateR L late P ops n a0 F k (V::Rs) os
theorem LateR.mono{F:List (Qv L)→Prop}{k:Nat}{Rs:List (Qv L)}{o:Oper}{os:List Oper}(V:Qv L)(js:List (Nat×Tmp))(hc:(yh ops Rs.length js && zZ ops n Rs.length js)=true)(hl:late.contains Rs.length=false)(hA: ∀vs w,L.C vs w→XY P ops vs Rs.reverse (yt (fun v w'=>V.p vs v w'∧L.G w w') o.dst a0.defers) o w js a0)(h:LateR L late P ops n a0 F k (V::Rs) os):LateR L late P ops n a0 F (k+1) Rs (o::os):=⟨V,js,hc, .inl ⟨hl, [],rfl,fun vs w _ hC=>hA vs w hC⟩,h⟩
theorem LateR.monoN{F:List (Qv L)→Prop}{k:Nat}{Rs:List (Qv L)}{o:Oper}{os:List Oper}(V:Qv L)(js:List (Nat×Tmp))(nq:List Nat)(hc:(yh ops Rs.length js && zZ ops n Rs.length js)=true)(hl:late.contains Rs.length=false)(hq:nqB ops late n Rs.length nq=true)(hA: ∀vs w,(∀x∈nq,x ∉ vs.map (·.1))→L.C vs w→XY P ops vs Rs.reverse (yt (fun v w'=>V.p vs v w'∧L.G w w') o.dst a0.defers) o w js a0)(h:LateR L late P ops n a0 F k (V::Rs) os):LateR L late P ops n a0 F (k+1) Rs (o::os):=⟨V,js,hc, .inl ⟨hl,nq,hq,hA⟩,h⟩
theorem LateR.turn{F:List (Qv L)→Prop}{k:Nat}{Rs:List (Qv L)}{o:Oper}{os:List Oper}(q:Nat)(js:List (Nat×Tmp))(hc:(yh ops Rs.length js && zZ ops n Rs.length js)=true)(rq:List Nat)(hl:late[q]? =some Rs.length)(hr:(rq.all fun x=>match late[x]? with|some k=>Region.waitsFor .any ops Rs.length k|none=>false)=true)(hA: ∀vs w,q ∉ vs.map (·.1)→(∀x∈rq,x∈vs.map (·.1))→L.C vs w→XY P ops vs Rs.reverse (yt (fun v w'=>L.R q v w w'∧L.C (vs++ [(q,v)]) w') o.dst a0.defers) o w js a0)(h:LateR L late P ops n a0 F k (Qv.slot q::Rs) os):LateR L late P ops n a0 F (k+1) Rs (o::os):=⟨Qv.slot q,js,hc, .inr ⟨q,rq, [],hl,hr,rfl,rfl,fun vs w h1 h2 _ hC=>hA vs w h1 h2 hC⟩,h⟩
theorem LateR.out{F:List (Qv L)→Prop}: ∀{k:Nat} {Rs:List (Qv L)} {os:List Oper},LateR L late P ops n a0 F k Rs os→k≤os.length∧ ∃Ws:List (Qv L),Ws.length=k∧F (Rs.reverse++Ws)∧ ∀m o,m< k→os[m]? =some o→ ∃V js,Ws[m]? =some V∧(yh ops (Rs.length+m) js && zZ ops n (Rs.length+m) js)=true∧Fr L late P ops n ((Rs.reverse++Ws).take (Rs.length+m)) a0.defers (Rs.length+m) V o js a0
 |0,Rs,os,h=>⟨Nat.zero_le _, [],rfl,by rw [List.append_nil];exact h,fun m o hm=>by omega⟩
 |_+1,_, [],h=>h.elim
 |k+1,Rs,o::os,⟨V,js,hb,hA,hM⟩=>by
  obtain ⟨hkl,Ws,hl,hF,hk⟩:=LateR.out hM;refine ⟨by simpa using hkl,V::Ws,by simp [hl],by simpa using hF,fun m o' hm ho=> ?_⟩;cases m with
  |zero=>
   obtain rfl:o=o':=by simpa using ho
   refine ⟨V,js,rfl,hb, ?_⟩
   have:(Rs.reverse++V::Ws).take (Rs.length+0)=Rs.reverse:=by
    rw [Nat.add_zero, ←List.length_reverse];exact List.take_left
   rw [this];exact hA
  |succ m=>
   obtain ⟨V',js',h1,h2,h3⟩:=hk m o' (by omega) (by simpa using ho);refine ⟨V',js',by simpa using h1, ?_, ?_⟩
   ·simpa [Nat.add_assoc,Nat.add_comm 1 m] using h2
   ·simpa [Nat.add_assoc,Nat.add_comm 1 m] using h3
def YI(G:Act→World→Prop)(vs:List (Nat×Value))(w:World):List (Qv L)→List Oper→Act→Prop
 |V::Vs,o::os,a=> ∀x,V.p vs x w→YI G vs w Vs os (a.put o.dst x)
 |_,_,a=>G a w
theorem YI.all{G:Act→World→Prop}{vs:List (Nat×Value)}{w:World}{b:Act}: ∀{Vs:List (Qv L)} {os:List Oper} {a:Act},Vs.length=os.length→(∀(k:Nat) (V:Qv L) (o:Oper),Vs[k]? =some V→os[k]? =some o→V.p vs (match o.dst with|some d=>b.eval (.tmp d)|none=>undef) w)→YI G vs w Vs os a→G (QI b (os.map (·.dst)) a) w
 | [], [],_,_,_,h=>h
 |V::Vs,o::os,a,hl,hx,h=>YI.all (Vs:=Vs) (os:=os) (by simpa using hl) (fun k V o hv ho=>hx (k+1) V o (by simpa using hv) (by simpa using ho)) (h _ (hx 0 V o rfl rfl))
 | [],_::_,_,hl,_,_=>by simp at hl
 |_::_, [],_,hl,_,_=>by simp at hl
theorem XY.all{vs:List (Nat×Value)}{Vs:List (Qv L)}{Qt:Exit→Act→World→Prop}{o:Oper}{w:World}{b:Act}: ∀{js:List (Nat×Tmp)} {a:Act},(∀x:Nat×Tmp,x∈js→(Vs.getD x.1 Qv.any).p vs (b.eval (.tmp x.2)) w)→XY P ops vs Vs Qt o w js a→wpList P ops Qt [o] (QI b (js.map fun x=>some x.2) a) w
 | [],_,_,h=>h
 |(j,d)::js,a,hx,h=>XY.all (js:=js) (fun x hm=>hx x (List.mem_cons_of_mem _ hm)) (h _ (hx (j,d) (by simp)))
def Cls(L:Lt)(late:List Nat)(vs:List (Nat×Value))(D:Array Bool)(w:World):Prop:=((vs.map (·.1)).Nodup∧ ∀q∈vs.map (·.1),q< late.length)∧L.C vs w∧ ∀q i,late[q]? =some i→(D.getD i false=true↔q∈vs.map (·.1))
structure Gv (L:Lt) (late:List Nat) (ops:Array Oper) (n:Nat) (a0:Act) (Vs:List (Qv L)) (vs:List (Nat×Value)) (D:Array Bool) (a:Act) (w:World):Prop where
 head:HeadInv .any ops n D
 cls:Cls L late vs D w
 tsize:a.tmps.size=a0.tmps.size
 defers:a.defers=a0.defers
 rest: ∀t,(∀j,j< n→D.getD j false=true→zU ops j≠some t)→a.tmps[t]? =a0.tmps[t]?
 known: ∀j V,D.getD j false=true→Vs[j]? =some V→V.p vs (Tc (zU ops j) a) w
theorem yY{T:Value→World→Prop}{dst:Option Tmp}{ds:List Deferred}: ¬LetsOut (yt T dst ds):=by
 rintro ⟨a,w',e,_⟩;cases e
def TA(n:Nat)(late:List Nat):Bool:=late.all (fun i=>decide (i< n)) && decide late.Nodup
theorem Td{T:Value→World→Prop}{o:Oper}{a b:Act}{w:World}(hs: ∀cs b,o.op≠ .select cs b)(hd: ∀d,o.dst=some d→d< a.tmps.size)(hsz:b.tmps.size=a.tmps.size)(hlook: ∀t∈o.looksAt ops,b.tmps[t]? =a.tmps[t]?){i:Nat}(hi:ops[i]? =some o)
  (hdf:b.defers=a0.defers) (h:wpList P ops (yt T o.dst a0.defers) [o] b w):wpOp P ops Q i (fun a' w'=> ∃v,a'=a.put o.dst v∧T (match o.dst with|some _=>v|none=>undef) w') a w:=by
 have hex:execOp b.eval o=execOp a.eval o:=execOp_congr o hs fun x hx=>by
  cases x with
  |tmp t=>exact Yd _ _ _ (hlook t (List.mem_append_left _ (List.mem_filterMap.2 ⟨.tmp t,by simpa using hx,rfl⟩)))
  |_=>rfl
 have hwn:Region.wanted o (yielded ops b.tmps)=Region.wanted o (yielded ops a.tmps):=by
  unfold Region.wanted;cases hg:o.guard with
  |none=>rfl
  |some gw=>
   obtain ⟨g,want⟩:=gw;have hy:yielded ops b.tmps g=yielded ops a.tmps g:=by
    unfold yielded;cases ht:(ops[g]?).bind (·.dst) with
    |none=>rfl
    |some t=>simp only [Option.bind_some,hlook t (by simp [Oper.looksAt,hg,ht])]
   simp only [hy]
 have fin: ∀v w',yt T o.dst a0.defers .normal (b.put o.dst v) w'→ ∃v',a.put o.dst v=a.put o.dst v'∧T (match o.dst with|some _=>v'|none=>undef) w':=by
  rintro v w' ⟨_,_,h1⟩;refine ⟨v,rfl, ?_⟩;cases hdd:o.dst with
  |none=>rw [hdd] at h1;exact h1
  |some d=>
   rw [hdd] at h1;have hlt:=hd d hdd
   have:(b.put (some d) v).eval (.tmp d)=v:=by simp [Act.put,Act.eval,Array.getD_eq_getD_getElem?,hsz,hlt]
   simp only [this] at h1;exact h1
 unfold wpOp;simp only [hi];simp only [wpList,hwn] at h;split
 ·rename_i hw;rw [if_pos hw] at h;rcases h with h|h
  ·left;unfold Oper.wp at h ⊢;rw [hex] at h;generalize (execOp a.eval o).run P w=r at *;cases r with
   |ok x w'=>
    cases x with
    |value v=>exact fin v w' h
    |skip=>exact fin undef w' h
    |enter f args=>
     refine Calls.mono h fun e w'' he=> ?_
     cases e with
     |returned u=>exact fin u w'' he
     |panicked c=>exact absurd he.1 (by simp)
     |outgrown=>exact absurd he yY
    |row row args=>exact Rows.mono h fun u w'' he=>fin u w'' he
    |defer d=>
     obtain ⟨_,h1,_⟩:=h;have h1:(Act.put {b with defers:=d::b.defers} o.dst undef).defers=a0.defers:=h1;rw [yC, ←hdf] at h1;exact absurd (congrArg List.length h1) (by simp)
    |_=>exact h.elim
   |halt x w'=>
    cases x with
    |panic v=>exact absurd h.1 (by simp)
    |_=>exact h.elim
  ·exact absurd h.2 yY
 ·rename_i hw;rw [if_neg hw] at h;exact fin undef w h
theorem VL{L:Lt}{late:List Nat}{vs vs2:List (Nat×Value)}{Vs:List (Qv L)}{D:Array Bool}{a a':Act}{w w':World}{i:Nat}{o:Oper}{V:Qv L}{v:Value}(inv:Gv L late ops n a0 Vs vs D a w)(hd:LK ops n a0.tmps.size=true)(hi:i∈Region.ready .any ops D)(hin:i< n)(ho:ops[i]? =some o)(hV:Vs[i]? =some V)(hnl:Vs.length≤n)
  (ha:a'=a.put o.dst v) (hv:V.p vs2 (match o.dst with|some _=>v|none=>undef) w') (hg: ∀(W:Qv L) (j:Nat),D.getD j false=true→Vs[j]? =some W→ ∀{u:Value},W.p vs u w→W.p vs2 u w') (hcl:Cls L late vs2 (D.setIfInBounds i true) w'):Gv L late ops n a0 Vs vs2 (D.setIfInBounds i true) a' w':=by
 subst ha;have hdi:zU ops i=o.dst:=by simp [zU,ho]
 have hun:D.getD i true=false:=(mem_ready.1 hi).1;have hlt:i< D.size:=by
  rcases Nat.lt_or_ge i D.size with h'|h'
  ·exact h'
  ·simp [Array.getElem?_eq_none h'] at hun
 refine ⟨inv.head.set hi hin,hcl,(Yj _ _ _).trans inv.tsize,(yC _ _ _).trans inv.defers,fun t ht=> ?_,fun j W hj hW=> ?_⟩
 ·have h1:o.dst≠some t:=fun e=>ht i hin (by simp [hlt]) (hdi.trans e)
  refine Eq.trans ?_ (inv.rest t fun j hj hD=>ht j hj (getD_set_true hD));cases hdd:o.dst with
  |none=>rfl
  |some d=>exact YU _ _ _ _ (fun e=>h1 (by rw [hdd,e]))
 ·by_cases e:i=j
  ·subst e;obtain rfl:V=W:=Option.some.inj (hV.symm.trans hW);rw [hdi];cases hdd:o.dst with
   |none=>rw [hdd] at hv;exact hv
   |some d=>
    rw [hdd] at hv;have hds:=zg hd hin;rw [hdi,hdd] at hds;simp only [Bool.and_eq_true,decide_eq_true_eq] at hds
    have:(a.put (some d) v).eval (.tmp d)=v:=by simp [Act.put,Act.eval,Array.getD_eq_getD_getElem?,inv.tsize,hds.1]
    show V.p vs2 ((a.put (some d) v).eval (.tmp d)) w';rw [this];exact hv
  ·have hjn:j< n:=by have:=(List.getElem?_eq_some_iff.1 hW).1;omega
   rw [getD_set_ne false e] at hj;have h1:=hg W j hj hW (inv.known j W hj hW);cases hdj:zU ops j with
   |none=>rw [hdj] at h1;exact h1
   |some dj=>
    rw [hdj] at h1;have h1:W.p vs2 (a.eval (.tmp dj)) w':=h1;show W.p vs2 ((a.put o.dst v).eval (.tmp dj)) w';cases hdd:o.dst with
    |none=>exact h1
    |some d=>
     have hds:=zg hd hin;rw [hdi,hdd] at hds;simp only [Bool.and_eq_true,decide_eq_true_eq] at hds;have h2:=zg hds.2 hjn;simp only [Bool.or_eq_true,beq_iff_eq,bne_iff_ne,ne_eq] at h2;have h3:d≠dj:=fun e'=>(h2.resolve_left (fun e2=>e e2.symm)) (by rw [hdj,e'])
     rw [Yd _ a dj (YU a d dj v h3)];exact h1
theorem Xs{l:List Oper}(n:Nat)(hB:ZN l.toArray n a0.tmps.size=true)(hBl:TA n late=true)(hC0:L.C [] w0)
  (h:LateR L late P l.toArray n a0 (fun Vs=> ∀vs w,(vs.map (·.1)).Nodup∧(∀q,q< late.length↔q∈vs.map (·.1))→L.C vs w→YI (fun a w=>wpList P l.toArray Q (l.drop n) a w) vs w Vs (l.take n) a0) n [] l):wpAny P .any l.toArray Q l.toArray.size (Array.replicate l.toArray.size false) a0 w0:=by
 simp only [ZN,Bool.and_eq_true,decide_eq_true_eq] at hB;obtain ⟨⟨⟨⟨hsel,hn⟩,htail⟩,htopo⟩,hdist⟩:=hB;simp only [OG,Bool.and_eq_true] at htail;obtain ⟨hblk,hseq⟩:=htail;simp only [TA,Bool.and_eq_true,decide_eq_true_eq] at hBl;obtain ⟨hlt0,hnd⟩:=hBl;have hlate: ∀i∈late,i< n:=fun i hi=>by simpa using List.all_eq_true.1 hlt0 i hi
 obtain ⟨_,Vs,hVl,hF,hO⟩:=LateR.out h;rw [List.reverse_nil,List.nil_append] at hF;simp only [List.reverse_nil,List.nil_append,List.length_nil,Nat.zero_add] at hO;have hnl:n≤l.length:=by simpa using hn
 have htl:(l.take n).length=n:=by simp;omega
 have hVn:Vs.length=n:=hVl;have hdl:(l.drop n).length=l.toArray.size - n:=by simp
 have hnext: ∀i o,i< n→l.toArray[i]? =some o→(l.take n)[i]? =some o:=fun i o hi ho=>by
  rw [List.getElem?_take,if_pos hi];simpa using ho
 have key: ∀m vs D a w,Gv L late l.toArray n a0 Vs vs D a w→cnt D n=m→wpAny P .any l.toArray Q (m+(l.toArray.size - n)) D a w:=by
  intro m;induction m with
  |zero=>
   intro vs D a w inv hc;have hall:=xe hc;have hD:D=Array.replicate n true++Array.replicate (l.toArray.size - n) false:=by
    have hsz:=inv.head.size;refine Array.ext (by simp [hsz];omega) fun i h1 h2=> ?_
    rw [Array.getElem_append];by_cases hi:i< n
    ·have:=hall i hi
     simp [h1] at this;simp [hi,this]
    ·have:=inv.head.tail i (by omega) (by omega)
     simp [h1] at this;simp [hi,this]
   have hk: ∀(k:Nat) (V:Qv L) (o:Oper),Vs[k]? =some V→(l.take n)[k]? =some o→V.p vs (match o.dst with|some d=>a.eval (.tmp d)|none=>undef) w:=by
    intro k V o hv ho;have hkn:k< n:=by have:=(List.getElem?_eq_some_iff.1 hv).1;omega
    have h1:=inv.known k V (hall k hkn) hv;have h2:zU l.toArray k=o.dst:=by
     have:l[k]? =some o:=by rw [List.getElem?_take,if_pos hkn] at ho;exact ho
     simp [zU,this]
    rw [h2] at h1;have h3:(match o.dst with|some d=>a.eval (.tmp d)|none=>undef)=Tc o.dst a:=by cases o.dst<;>rfl
    rw [h3];exact h1
   have hcl:((vs.map (·.1)).Nodup∧(∀q,q< late.length↔q∈vs.map (·.1)))∧L.C vs w:=by
    obtain ⟨hk0,hk1,hk2⟩:=inv.cls;exact ⟨⟨hk0.1,fun q=>⟨fun h=>(hk2 q late[q] (List.getElem?_eq_getElem h)).1 (hall _ (hlate _ (List.getElem_mem h))),hk0.2 q⟩⟩,hk1⟩
   have hfin:=YI.all (hVl.trans htl.symm) hk (hF vs w hcl.1 hcl.2);have hon:QI a ((l.take n).map (·.dst)) a0=a:=by
    refine Uj (fun t=>xZ a t _ _ inv.tsize.symm ?_) ((ye _ _ _).trans inv.defers.symm);by_cases ht:some t∈(l.take n).map (·.dst)
    ·exact .inl ht
    ·refine .inr (inv.rest t fun j hj _ e=>ht ?_).symm;have hjl:j< l.length:=by omega
     have:l[j].dst=some t:=by simpa [zU,hjl] using e
     exact List.mem_map.2 ⟨l[j],List.mem_iff_getElem?.2 ⟨j,by rw [List.getElem?_take,if_pos hj,List.getElem?_eq_getElem hjl]⟩,this⟩
   rw [hon] at hfin
   have:=wpAny_of_seq (md:= .any) (Q':=Q) (l.drop n) n D a w (fun j=>by simp [List.getElem?_drop]) (by rw [hdl,hD];exact hseq) hfin
   rw [hdl] at this
   rwa [Nat.zero_add]
  |succ m ih=>
   intro vs D a w inv hc;have hready: ∀i∈Region.ready .any l.toArray D,i< n:=by
    intro i hi;rcases Nat.lt_or_ge i n with h'|h'
    ·exact h'
    ·obtain ⟨hu,oi,hoi,hall⟩:=mem_ready.1 hi;have hlt:i< l.toArray.size:=(Array.getElem?_eq_some_iff.1 hoi).1;exfalso;obtain ⟨k,hk,hkd⟩: ∃k,k< n∧D.getD k false=false:=by
      refine Classical.byContradiction fun hno=> ?_
      have: ∀k,k≤n→cnt D k=0:=by
       intro k;induction k with
       |zero=>intro _;rfl
       |succ k ihk=>
        intro hk;have h1:D.getD k false=true:=by
         refine Classical.byContradiction fun hx=>hno ⟨k,by omega,by simpa using hx⟩
        simp only [cnt,h1,ihk (by omega)];rfl
      rw [this n (Nat.le_refl _)] at hc;omega
     have hb:=zg hblk hlt;simp only [Bool.or_eq_true,decide_eq_true_eq] at hb;have hb:=zg (hb.resolve_left (by omega)) hk;simp only [Bool.not_eq_true'] at hb;have hik:i≠k:=by omega
     have:av l.toArray k n i=true:=by
      have hav:=fun f j hj=>Qp (ops:=l.toArray) inv.head.closed inv.head.size hkd f j hj
      cases hn0:n with
      |zero=>simp [av,hik]
      |succ f=>
       simp only [av,hoi,Option.map_some,Option.getD_some,Bool.and_eq_true,bne_iff_ne];refine ⟨hik, ?_⟩;rw [Array.all_eq_true_iff_forall_mem];intro e he;by_cases hbd:Region.binds .any e=true
       ·simp [hbd,hav f e.on (hall e he hbd)]
       ·simp [hbd]
     rw [hb] at this;cases this
   have hne:Region.ready .any l.toArray D≠ []:=by
    have hex: ∃k,k< n∧D.getD k false=false∧ ∀j,j< k→D.getD j false=true:=by
     have: ∀k,k≤n→(∃q,q< k∧D.getD q false=false∧ ∀j,j< q→D.getD j false=true)∨(cnt D k=0):=by
      intro k;induction k with
      |zero=>intro _;exact .inr rfl
      |succ k ihk=>
       intro hk;rcases ihk (by omega) with ⟨q,h1,h2⟩|h0
       ·exact .inl ⟨q,by omega,h2⟩
       ·cases hq:D.getD k false with
        |true=>right;simp only [cnt,hq,h0];rfl
        |false=>exact .inl ⟨k,by omega,hq,xe h0⟩
     rcases this n (Nat.le_refl _) with ⟨q,h1,h2⟩|h0
     ·exact ⟨q,h1,h2⟩
     ·omega
    obtain ⟨k,hk,hkd,hbel⟩:=hex;have hkl:k< l.toArray.size:=by omega
    have ho:l.toArray[k]? =some l.toArray[k]:=Array.getElem?_eq_getElem hkl
    have:k∈Region.ready .any l.toArray D:=by
     refine mem_ready.2 ⟨getD_in (by rw [inv.head.size];exact hkl) hkd,_,ho,fun e he hb=>hbel _ ?_⟩;have ht:=zg htopo hk;simp only [ho,Option.map_some,Option.getD_some] at ht
     have:=Array.all_eq_true_iff_forall_mem.1 ht e he
     simpa [hb] using this
    intro e;rw [e] at this;cases this
   rw [show m+1+(l.toArray.size - n)=(m+(l.toArray.size - n))+1 by omega];refine ⟨fun e=>absurd e hne,fun i hi=> ?_⟩;have hin:=hready i hi;obtain ⟨hu,o,ho,hall⟩:=mem_ready.1 hi;obtain ⟨V,js,hV,hchk,hask⟩:=hO i o hin (by simpa using ho);simp only [Bool.and_eq_true] at hchk;obtain ⟨hpair,hlook⟩:=hchk;have hdst: ∀d,o.dst=some d→d< a.tmps.size:=by
    intro d hd
    have:=zg hdist hin
    have h2:zU l.toArray i=some d:=by simp only [zU,ho];exact hd
    rw [h2] at this;simp only [Bool.and_eq_true,decide_eq_true_eq] at this;rw [inv.tsize];exact this.1
   have hjs: ∀x:Nat×Tmp,x∈js→zU l.toArray x.1=some x.2∧D.getD x.1 false=true∧x.1< i:=by
    intro x hx
    have:=List.all_eq_true.1 hpair x hx
    simp only [Bool.and_eq_true,beq_iff_eq] at this;obtain ⟨oj,hoj,e,he,hb,hon⟩:=Region.waitsFor_spec this.2;obtain rfl:o=oj:=Option.some.inj (ho.symm.trans hoj);have ht:=zg htopo hin;simp only [ho,Option.map_some,Option.getD_some] at ht;have ht:=Array.all_eq_true_iff_forall_mem.1 ht e he;simp only [hb,Bool.not_true,Bool.false_or,decide_eq_true_eq] at ht;exact ⟨this.1,by rw [←hon];exact hall e he hb,by rw [←hon];exact ht⟩
   have hget: ∀x:Nat×Tmp,x∈js→((Vs.take i).getD x.1 Qv.any).p vs (a.eval (.tmp x.2)) w:=fun x hx=>by
    obtain ⟨h1,h2,h3⟩:=hjs x hx;have hxl:x.1< Vs.length:=by omega
    have h4:Vs[x.1]? =some Vs[x.1]:=List.getElem?_eq_getElem hxl;have h5:=inv.known x.1 _ h2 h4;rw [h1] at h5
    have:(Vs.take i).getD x.1 Qv.any=Vs[x.1]:=by
     rw [List.getD_eq_getElem?_getD,List.getElem?_take,if_pos h3,h4];rfl
    rw [this];exact h5
   obtain ⟨hk0,hk1,hk2⟩:=inv.cls;have hlk: ∀t∈o.looksAt l.toArray,(QI a (js.map fun x=>some x.2) a0).tmps[t]? =a.tmps[t]? :=fun t ht=>by
    refine xZ a t _ _ inv.tsize.symm ?_;have h1:(o.looksAt l.toArray).all (fun t=>js.any (·.2==t)||Nh l.toArray n i t)=true:=by
     simpa only [zZ,ho,Option.map_some,Option.getD_some] using hlook
    have h2:=List.all_eq_true.1 h1 t ht;simp only [Bool.or_eq_true] at h2;rcases h2 with h2|h2
    ·left;obtain ⟨x,hx,hxt⟩:=List.any_eq_true.1 h2;exact List.mem_map.2 ⟨x,hx,by rw [beq_iff_eq.1 hxt]⟩
    ·right;refine (inv.rest t fun j hj hD e=> ?_).symm;have h3:=zg h2 hj;simp only [Bool.or_eq_true,bne_iff_ne,ne_eq,beq_iff_eq] at h3;rcases h3 with (h3|h3)|h3
     ·exact h3 e
     ·obtain ⟨oj,hoj,e',he',hb',hon⟩:=Region.waitsFor_spec h3
      have:=inv.head.closed j oj hoj hD e' he' hb'
      rw [hon,getD_both hu] at this;cases this
     ·subst h3;rw [getD_both hu] at hD;cases hD
   obtain ⟨T,hA,hS⟩: ∃T:Value→World→Prop,XY P l.toArray vs (Vs.take i) (yt T o.dst a0.defers) o w js a0∧(∀v w',T v w'→ ∃vs2,V.p vs2 v w'∧(∀(W:Qv L) (j:Nat),D.getD j false=true→Vs[j]? =some W→ ∀{u:Value},W.p vs u w→W.p vs2 u w')∧Cls L late vs2 (D.setIfInBounds i true) w'):=by
    have hnq: ∀nq:List Nat,nqB l.toArray late n i nq=true→ ∀x∈nq,x ∉ vs.map (·.1):=fun nq hb x hx hm=>by
     have hw:=List.all_eq_true.1 hb x hx;cases hlx:late[x]? with
     |none=>rw [hlx] at hw;cases hw
     |some k=>
      rw [hlx] at hw;have hDk:=(hk2 x k hlx).2 hm
      have:=Qp (ops:=l.toArray) inv.head.closed inv.head.size (getD_both hu) n k hDk
      simp [this] at hw
    rcases hask with ⟨hnl',nq,hnqb,hA⟩|⟨q,rq,nq,hq,hrq,hnqb,hVq,hA⟩
    ·have hne: ∀q i',late[q]? =some i'→i≠i':=fun q i' hq e=>by
      subst e
      have:=List.contains_iff_mem.2 (List.mem_of_getElem? hq)
      rw [hnl'] at this;cases this
     exact ⟨_,hA vs w (hnq nq hnqb) hk1,fun v w' hg=>⟨vs,hg.1,fun W j _ _ _ hp=>W.st hp hg.2,hk0,L.g hk1 hg.2,fun q i' hq=>by rw [getD_set_ne false (hne q i' hq)];exact hk2 q i' hq⟩⟩
    ·have hDi:D.getD i false=false:=getD_both hu;have h1:q ∉ vs.map (·.1):=fun h=>by have:=(hk2 q i hq).2 h;rw [hDi] at this;cases this
     have h2: ∀x∈rq,x∈vs.map (·.1):=fun x hx=>by
      have hw:=List.all_eq_true.1 hrq x hx;cases hlx:late[x]? with
      |none=>rw [hlx] at hw;cases hw
      |some k=>
       rw [hlx] at hw;obtain ⟨oj,hoj,e,he,hb,hon⟩:=Region.waitsFor_spec hw;obtain rfl:o=oj:=Option.some.inj (ho.symm.trans hoj);have h3:=hall e he hb;rw [hon] at h3;exact (hk2 x k hlx).1 h3
     refine ⟨_,hA vs w h1 h2 (hnq nq hnqb) hk1,fun v w' hg=>⟨vs++ [(q,v)],(by rw [hVq];show (q,v)∈vs++ [(q,v)];simp),fun W j hj hW _ hp=>W.sr hk1 hg.1 hp,⟨?_,fun x hx=> ?_⟩,hg.2,fun q' i' hq'=> ?_⟩⟩
     ·rw [List.map_append,List.nodup_append];exact ⟨hk0.1,by simp,fun a ha b hb e=>by
       have hb:b=q:=by simpa using hb
       exact h1 (by rw [←hb, ←e];exact ha)⟩
     ·rw [List.map_append,List.mem_append] at hx;rcases hx with hx|hx
      ·exact hk0.2 x hx
      ·have hx:x=q:=by simpa using hx
       rw [hx];exact (List.getElem?_eq_some_iff.1 hq).1
     ·rw [List.map_append,List.mem_append];by_cases e:i=i'
      ·subst e;have hqq:q'=q:=(List.getElem?_inj (List.getElem?_eq_some_iff.1 hq').1 hnd).1 (hq'.trans hq.symm);have hlt:i< D.size:=by
        rw [inv.head.size];exact (Array.getElem?_eq_some_iff.1 ho).1
       simp [hlt,hqq]
      ·rw [getD_set_ne false e,hk2 q' i' hq']
       have:q'≠q:=fun e'=>e (by rw [e',hq] at hq';exact Option.some.inj hq')
       simp [this]
   have hW:=XY.all (b:=a) hget hA;have hop:=Td (Q:=Q) (ops:=l.toArray) (a0:=a0) (a:=a) (Region.noSelect_spec hsel i o · · ho) hdst ((Zw _ _ _).trans inv.tsize.symm) hlk ho (ye _ _ _) hW;refine wpOp_mono (fun a' w' hk=> ?_) hop;obtain ⟨v,ha,hT⟩:=hk;obtain ⟨vs2,hv,hs,hcl⟩:=hS _ w' hT;exact ih vs2 _ a' w' (VL inv hdist hi hin ho hV (by omega) ha hv hs hcl) (by have:=(XF (D:=D) (i:=i) n).2 hin hu;omega)
 have h0:=key n [] (Array.replicate l.toArray.size false) a0 w0 ⟨⟨by simp,(fun j oj _ hD=>by rw [getD_replicate_false] at hD;cases hD),fun t _ ht=>by simp only [List.size_toArray] at ht ⊢;simp [ht]⟩,⟨⟨by simp,by simp⟩,hC0,fun q i hq=>by rw [getD_replicate_false];simp⟩,rfl,rfl,fun _ _=>rfl,(fun j V hD=>by rw [getD_replicate_false] at hD;cases hD)⟩ (ZB _ n)
 rwa [show n+(l.toArray.size - n)=l.toArray.size by omega] at h0
theorem askl_do{T:Value→World→Prop}{ds:List Deferred}{o:Oper}{a:Act}{w:World}(hw:Region.wanted o (yielded ops a.tmps)=true)
  (h: ∀K':Act→World→Prop,(∀a' w',a'.defers=ds→T (match o.dst with|some d=>a'.eval (.tmp d)|none=>undef) w'→K' a' w')→o.wp P a w K' (yt T o.dst ds)):wpList P ops (yt T o.dst ds) [o] a w:=by
 unfold wpList;rw [if_pos hw];exact .inl (h _ fun a' w' h1 h2=>⟨rfl,h1,h2⟩)
def PC(P:Program)(ops:Array Oper)(Q:Exit→Act→World→Prop)(vs:List (Nat×Value))(w:World):List (Qv L)→List Oper→Act→Prop
 |V::Vs,o::os,a=> ∀x,V.p vs x w→PC P ops Q vs w Vs os (a.put o.dst x)
 |_,os,a=>wpList P ops Q os a w
theorem PC.cut{vs:List (Nat×Value)}{w:World}: ∀{Vs:List (Qv L)} {os:List Oper} {a:Act},Vs.length≤os.length→PC P ops Q vs w Vs os a→YI (fun a w=>wpList P ops Q (os.drop Vs.length) a w) vs w Vs (os.take Vs.length) a
 | [],os,a,_,h=>by
  have h:wpList P ops Q os a w:=by cases os<;>exact h
  exact h
 |V::Vs, [],a,hl,_=>by simp at hl
 |V::Vs,o::os,a,hl,h=>fun x hx=>PC.cut (Vs:=Vs) (os:=os) (by simpa using hl) (h x hx)
theorem LateR.weak{F G:List (Qv L)→Prop}: ∀{k:Nat} {Rs:List (Qv L)} {os:List Oper},LateR L late P ops n a0 F k Rs os→(∀Ws,Ws.length=Rs.length+k→F Ws→G Ws)→LateR L late P ops n a0 G k Rs os
 |0,Rs,_,h,hg=>hg _ (by simp) h
 |_+1,_, [],h,_=>h.elim
 |k+1,Rs,o::os,⟨V,js,hb,hA,hM⟩,hg=>⟨V,js,hb,hA,LateR.weak hM fun Ws hW=>hg Ws (by simp at hW ⊢;omega)⟩
theorem Yx{l:List Oper}(n:Nat)(hB:ZN l.toArray n a0.tmps.size=true)(hBl:TA n late=true)(hC0:L.C [] w0)
  (h:LateR L late P l.toArray n a0 (fun Vs=> ∀vs w,(vs.map (·.1)).Nodup∧(∀q,q< late.length↔q∈vs.map (·.1))→L.C vs w→PC P l.toArray Q vs w Vs l a0) n [] l):wpAny P .any l.toArray Q l.toArray.size (Array.replicate l.toArray.size false) a0 w0:=by
 refine Xs n hB hBl hC0 (LateR.weak h fun Ws hW hF vs w hvl hw=> ?_);have hn:=(LateR.out h).1;have hl:Ws.length=n:=by simpa using hW
 have:=PC.cut (by rw [hl];exact hn) (hF vs w hvl hw)
 rwa [hl] at this
theorem wp_region_late{l:List Oper}{id:Nat}(L:Lt)(late:List Nat)(n:Nat)(hm:P.follows .mixedOrders=true)(hB:ZN l.toArray n a0.tmps.size=true)(hBl:TA n late=true)(hC0:L.C [] w0.drew)
  (h:LateR L late P l.toArray n a0 (fun Vs=> ∀vs w,(vs.map (·.1)).Nodup∧(∀q,q< late.length↔q∈vs.map (·.1))→L.C vs w→PC P l.toArray Q vs w Vs l a0) n [] l):(Code.region id l.toArray true).wp P Q a0 w0:=
 wp_region_any hm (Yx n hB hBl hC0 h)
end
section
variable {L:Lt} {late:List Nat} {P:Program} {ops:Array Oper} {n:Nat} {a0:Act} {F:List (Qv L)→Prop} {k:Nat} {Rs:List (Qv L)} {o:Oper} {os:List Oper}
theorem pQ{v:Value}{G:Value→Prop}(h:G v): ∀x,x=v→G x:=fun _ e=>e ▸ h
theorem mV(V:Qv L)(js:List (Nat×Tmp))(hA: ∀vs w,L.C vs w→XY P ops vs Rs.reverse (yt (fun v w'=>V.p vs v w'∧L.G w w') o.dst a0.defers) o w js a0)(h:LateR L late P ops n a0 F k (V::Rs) os)(hc:(yh ops Rs.length js && zZ ops n Rs.length js)=true:=by kernel_rfl)(hl:late.contains Rs.length=false:=by kernel_rfl):LateR L late P ops n a0 F (k+1) Rs (o::os):=LateR.mono V js hc hl hA h
theorem mS(u:Value)(js:List (Nat×Tmp))(hA: ∀vs w,L.C vs w→XY P ops vs Rs.reverse (yt (fun v w'=>(Qv.eq (L:=L) u).p vs v w'∧L.G w w') o.dst a0.defers) o w js a0)(h:LateR L late P ops n a0 F k (Qv.eq u::Rs) os)(hc:(yh ops Rs.length js && zZ ops n Rs.length js)=true:=by kernel_rfl)(hl:late.contains Rs.length=false:=by kernel_rfl):LateR L late P ops n a0 F (k+1) Rs (o::os):=LateR.mono _ js hc hl hA h
theorem kD{T:Value→World→Prop}{ds:List Deferred}{a:Act}{w:World}(h: ∀K:Act→World→Prop,(∀a' w',a'.defers=ds→T (match o.dst with|some d=>a'.eval (.tmp d)|none=>undef) w'→K a' w')→o.wp P a w K (yt T o.dst ds))(hw:Region.wanted o (yielded ops a.tmps)=true:=by rfl):wpList P ops (yt T o.dst ds) [o] a w:=askl_do hw h
theorem kE{T:Value→World→Prop}{ds:List Deferred}{a:Act}{w:World}(h: ∀K:Act→World→Prop,(∀a' w',a'.defers=ds→T (match o.dst with|some d=>a'.eval (.tmp d)|none=>undef) w'→K a' w')→o.wp P a w K (yt T o.dst ds))(hw:Region.wanted o (yielded ops a.tmps)=true:=by kernel_rfl):wpList P ops (yt T o.dst ds) [o] a w:=askl_do hw h
end
end FR
section
open Go Go.RowKit
theorem GY{vs:List (Nat×Value)}(h:(vs.map (·.1)).Nodup){q:Nat}{x y:Value}:(q,x)∈vs→(q,y)∈vs→x=y:=by
 induction vs with
 |nil=>intro hx;cases hx
 |cons a vs ih=>
  rw [List.map_cons,List.nodup_cons] at h;intro hx hy;rcases List.mem_cons.1 hx with e1|h1<;>rcases List.mem_cons.1 hy with e2|h2
  ·exact (Prod.ext_iff.1 (e1.trans e2.symm)).2
  ·exact absurd (List.mem_map.2 ⟨_,h2,by rw [←e1]⟩) h.1
  ·exact absurd (List.mem_map.2 ⟨_,h1,by rw [←e2]⟩) h.1
  ·exact ih h.2 h1 h2
theorem No{vs:List (Nat×Value)}{q:Nat}{x:Value}(h:(q,x)∈vs):q∈vs.map (·.1):=List.mem_map.2 ⟨_,h,rfl⟩
theorem zM{vs:List (Nat×Value)}{q r:Nat}{u:Value}:r∈(vs++ [(q,u)]).map (·.1)↔r∈vs.map (·.1)∨r=q:=by simp
theorem TC{vs:List (Nat×Value)}{q:Nat}{u:Value}(h:(vs.map (·.1)).Nodup)(hq:q ∉ vs.map (·.1)):((vs++ [(q,u)]).map (·.1)).Nodup:=by
 rw [List.map_append,List.nodup_append];exact ⟨h,by simp,fun a ha b hb e=>by
  have hb:b=q:=by simpa using hb
  exact hq (by rw [←hb, ←e];exact ha)⟩
structure QH (D:World) (row:Option Nat) (ty:TypeId) (zero:Array Value) (Pre:World→Prop) (yi:Value→Array Value→World→Prop):Prop where
 row: ∀r,row=some r→r< D.heap.size
 pre: ∀{W W'},Pre W→W.grownBy W' none→Pre W'
 told: ∀{x cs W W'},yi x cs W→W.grownBy W' none→yi x cs W'
 store: ∀{x cs W W' g},yi x cs W→Bk W g ty zero→D.heap.size≤g→W.grownBy W' (some g)→yi x cs W'
structure Xq (D:World) (row:Option Nat) (ty:TypeId) (zero:Array Value) (Pre:World→Prop) (yi:Value→Array Value→World→Prop) (vs:List (Nat×Value)) (W:World):Prop where
 g:D.grownBy W row
 pre:0 ∉ vs.map (·.1)→Pre W
 told: ∀x,(0,x)∈vs→ ∃cs,yi x cs W
 box: ∀x,(1,x)∈vs→ ∃g,x= .pointer (some ⟨g,0,none⟩)∧D.heap.size≤g∧(2 ∉ vs.map (·.1)→Bk W g ty zero)∧(2∈vs.map (·.1)→ ∃y cs,(0,y)∈vs∧yi y cs W∧Bk W g ty cs)
 two:2∈vs.map (·.1)→1∈vs.map (·.1)
 nd:(vs.map (·.1)).Nodup
section
variable {D:World} {row:Option Nat} {ty:TypeId} {zero:Array Value} {Pre:World→Prop} {yi:Value→Array Value→World→Prop} {vs:List (Nat×Value)} {W W':World}
theorem Xq.start(h:Pre D):Xq D row ty zero Pre yi [] D:=⟨World.grownBy.refl _ _,fun _=>h,by simp,by simp,by simp,by simp⟩
theorem Xq.keep(ok:QH D row ty zero Pre yi)(h:Xq D row ty zero Pre yi vs W)(hg:W.grownBy W' none):Xq D row ty zero Pre yi vs W' where
 g:=h.g.trans (hg.but _)
 pre:=fun hn=>ok.pre (h.pre hn) hg
 told:=fun x hx=>by
  obtain ⟨cs,hc⟩:=h.told x hx;exact ⟨cs,ok.told hc hg⟩
 box:=fun x hx=>by
  obtain ⟨g,e,hl,h1,h2⟩:=h.box x hx;refine ⟨g,e,hl,fun hn=>(h1 hn).grown hg (by simp),fun hy=> ?_⟩;obtain ⟨y,cs,a,b,c⟩:=h2 hy;exact ⟨y,cs,a,ok.told b hg,c.grown hg (by simp)⟩
 two:=h.two
 nd:=h.nd
theorem Xq.call(ok:QH D row ty zero Pre yi)(h:Xq D row ty zero Pre yi vs W)(hn:0 ∉ vs.map (·.1)){x:Value}{cs:Array Value}(ht:yi x cs W')(hg:W.grownBy W' row):Xq D row ty zero Pre yi (vs++ [(0,x)]) W' where
 g:=h.g.trans hg
 pre:=fun hm=>absurd (zM.2 (.inr rfl)) hm
 told:=fun y hy=>by
  rcases List.mem_append.1 hy with hy|hy
  ·exact absurd (No hy) hn
  ·simp only [List.mem_singleton,Prod.mk.injEq,true_and] at hy;subst hy;exact ⟨cs,ht⟩
 box:=fun y hy=>by
  rcases List.mem_append.1 hy with hy|hy
  ·obtain ⟨g,e,hl,h1,h2⟩:=h.box y hy;refine ⟨g,e,hl,fun hm=>(h1 fun hk=>hm (zM.2 (.inl hk))).grown hg (fun e=>by have:=ok.row g e.symm;omega),fun hm=> ?_⟩;rcases zM.1 hm with hm|hm
   ·obtain ⟨z,_,hz,_⟩:=h2 hm;exact absurd (No hz) hn
   ·cases hm
  ·simp at hy
 two:=fun hm=>by
  rcases zM.1 hm with hm|hm
  ·exact zM.2 (.inl (h.two hm))
  ·cases hm
 nd:=TC h.nd hn
theorem Xq.alloc(ok:QH D row ty zero Pre yi)(h:Xq D row ty zero Pre yi vs W)(hn:1 ∉ vs.map (·.1)):Xq D row ty zero Pre yi (vs++ [(1, .pointer (some ⟨W.heap.size,0,none⟩))]) (W.alloc (.cells zero ty)) where
 g:=h.g.trans ((gAl _ _ none).but _)
 pre:=fun hm=>ok.pre (h.pre fun hk=>hm (zM.2 (.inl hk))) (gAl _ _ none)
 told:=fun y hy=>by
  rcases List.mem_append.1 hy with hy|hy
  ·obtain ⟨cs,hc⟩:=h.told y hy;exact ⟨cs,ok.told hc (gAl _ _ none)⟩
  ·simp at hy
 box:=fun y hy=>by
  have h2:2 ∉ (vs++ [(1,Value.pointer (some ⟨W.heap.size,0,none⟩))]:List (Nat×Value)).map (·.1):=fun hm=>by
   rcases zM.1 hm with hm|hm
   ·exact hn (h.two hm)
   ·cases hm
  rcases List.mem_append.1 hy with hy|hy
  ·exact absurd (No hy) hn
  ·simp only [List.mem_singleton,Prod.mk.injEq,true_and] at hy;exact ⟨_,hy,h.g.size,fun _=>Bk.new _ _ _,fun hm=>absurd hm h2⟩
 two:=fun hm=>by
  rcases zM.1 hm with hm|hm
  ·exact zM.2 (.inl (h.two hm))
  ·cases hm
 nd:=TC h.nd hn
theorem Xq.stored(ok:QH D row ty zero Pre yi)(h:Xq D row ty zero Pre yi vs W)(hn:2 ∉ vs.map (·.1)){x u:Value}{cs:Array Value}{g:Nat}(hx:(0,x)∈vs)(ht:yi x cs W)(hp:(1, .pointer (some ⟨g,0,none⟩))∈vs)(hb:Bk W' g ty cs)(hg:W.grownBy W' (some g)):Xq D row ty zero Pre yi (vs++ [(2,u)]) W':=by
 obtain ⟨g',e,hl,h1,_⟩:=h.box _ hp;injection e with e
 injection e with e
 injection e with e _ _
 subst e;have hz:=h1 hn;refine ⟨h.g.andThen hg (fun j e=> .inl (by injection e with e;omega)),fun hm=>absurd (zM.2 (.inl (No hx))) hm,fun y hy=> ?_,fun y hy=> ?_,fun hm=>zM.2 (.inl (No hp)),TC h.nd hn⟩
 ·rcases List.mem_append.1 hy with hy|hy
  ·obtain ⟨cs',hc⟩:=h.told y hy;exact ⟨cs',ok.store hc hz hl hg⟩
  ·simp at hy
 ·rcases List.mem_append.1 hy with hy|hy
  ·have:=GY h.nd hy hp
   exact ⟨g,this,hl,fun hm=>absurd (zM.2 (.inr rfl)) hm,fun _=>⟨x,cs,List.mem_append_left _ hx,ok.store ht hz hl hg,hb⟩⟩
  ·simp at hy
theorem Xq.fin(h:Xq D row ty zero Pre yi vs W)(hv: ∀q,q< 3↔q∈vs.map (·.1)){y:Value}(hy:(1,y)∈vs): ∃g x cs,y= .pointer (some ⟨g,0,none⟩)∧D.heap.size≤g∧(0,x)∈vs∧yi x cs W∧Bk W g ty cs∧D.grownBy W row:=by
 obtain ⟨g,e,hl,_,h2⟩:=h.box y hy;obtain ⟨x,cs,a,b,c⟩:=h2 ((hv 2).1 (by omega));exact ⟨g,x,cs,e,hl,a,b,c,h.g⟩
def Ir(ok:QH D row ty zero Pre yi):FR.Lt where
 C:=Xq D row ty zero Pre yi
 R _ _ _ _:=True
 G W W':=W.grownBy W' none
 g:=fun h hg=>h.keep ok hg
def Cd{ok:QH D row ty zero Pre yi}:FR.Qv (Ir ok):=FR.Qv.slot 0
def Ce{ok:QH D row ty zero Pre yi}(f:Value→Value→Prop):FR.Qv (Ir ok) where
 p vs v _:= ∃x,(0,x)∈vs∧f v x
 st:=fun h _=>h
 sr:=fun _ _ ⟨x,h,hf⟩=>⟨x,List.mem_append_left _ h,hf⟩
end
structure QG (D:World) (row:Option Nat) (Pre:World→Prop) (yi:Value→World→Prop):Prop where
 row: ∀r,row=some r→r< D.heap.size
 pre: ∀{W W'},Pre W→W.grownBy W' none→Pre W'
 told: ∀{x W W'},yi x W→W.grownBy W' none→yi x W'
structure YJ (D:World) (row:Option Nat) (Pre:World→Prop) (yi:Value→World→Prop) (vs:List (Nat×Value)) (W:World):Prop where
 g:D.grownBy W row
 pre:0 ∉ vs.map (·.1)→Pre W
 told: ∀x,(0,x)∈vs→yi x W
section
variable {D:World} {row:Option Nat} {Pre:World→Prop} {yi:Value→World→Prop} {vs:List (Nat×Value)} {W W':World}
theorem YJ.start(h:Pre D):YJ D row Pre yi [] D:=⟨World.grownBy.refl _ _,fun _=>h,by simp⟩
theorem YJ.call(h:YJ D row Pre yi vs W)(hn:0 ∉ vs.map (·.1)){x:Value}(ht:yi x W')(hg:W.grownBy W' row):YJ D row Pre yi (vs++ [(0,x)]) W':=⟨h.g.trans hg,fun hm=>absurd (zM.2 (.inr rfl)) hm,fun y hy=>by
 rcases List.mem_append.1 hy with hy|hy
 ·exact absurd (No hy) hn
 ·simp only [List.mem_singleton,Prod.mk.injEq,true_and] at hy;exact hy ▸ ht⟩
def Qo(ok:QG D row Pre yi):FR.Lt where
 C:=YJ D row Pre yi
 R _ _ W W':=W.grownBy W' row
 G W W':=W.grownBy W' none
 g:=fun h hg=>⟨h.g.trans (hg.but _),fun hn=>ok.pre (h.pre hn) hg,fun x hx=>ok.told (h.told x hx) hg⟩
def EN{ok:QG D row Pre yi}:FR.Qv (Qo ok):=FR.Qv.slot 0
def Iq{ok:QG D row Pre yi}(f:Value→Value→Prop):FR.Qv (Qo ok) where
 p vs v _:= ∃x,(0,x)∈vs∧f v x
 st:=fun h _=>h
 sr:=fun _ _ ⟨x,h,hf⟩=>⟨x,List.mem_append_left _ h,hf⟩
def EO{ok:QG D row Pre yi}{α:Type}(E:Enc α)(xs:List α):FR.Qv (Qo ok) where
 p _ v W:=Sl E (fun k=>D.heap.size≤k) W v xs
 st:=fun h hg=>h.kept hg
 sr:=fun _ hR h=>h.keep hR (fun g hg e=>by have:=ok.row g e.symm;omega)
end
end
section
open Go Go.RowKit
section
variable {t1 t2:TypeId} {z1 z2 c1 c2:Array Value} {D W W':World} {vs:List (Nat×Value)} {u:Value} {g:Nat}
theorem YA{q r:Nat}{v:Value}(h:(r,v)∈vs++ [(q,u)])(hne:r≠q):(r,v)∈vs:=by
 rcases List.mem_append.1 h with h|h
 ·exact h
 ·rw [List.mem_singleton] at h;injection h with h1 _
  exact absurd h1 hne
theorem Yb{q:Nat}{v:Value}(h:(q,v)∈vs++ [(q,u)])(hn:q ∉ vs.map (·.1)):v=u:=by
 rcases List.mem_append.1 h with h|h
 ·exact absurd (List.mem_map.2 ⟨_,h,rfl⟩) hn
 ·rw [List.mem_singleton] at h;injection h
end
end
section
open Go Go.RowKit
structure yE (s t:Option Nat) (w w':World):Prop where
 os:w'.os=w.os
 tape:w'.tape=w.tape
 output:w'.output=w.output
 size:w.heap.size≤w'.heap.size
 block: ∀i,i< w.heap.size→some i≠s→some i≠t→w'.heap[i]? =w.heap[i]?
theorem yE.refl(s t:Option Nat)(w:World):yE s t w w:=⟨rfl,rfl,rfl,Nat.le_refl _,fun _ _ _ _=>rfl⟩
theorem yE.step{s t:Option Nat}{a b c:World}{row:Option Nat}(h:yE s t a b)(k:b.grownBy c row)(hr:row=none∨row=s∨row=t):yE s t a c:=⟨k.os.trans h.os,k.tape.trans h.tape,k.output.trans h.output,Nat.le_trans h.size k.size,fun i hi h1 h2=>(k.block i (Nat.lt_of_lt_of_le hi h.size) (by
 rcases hr with rfl|rfl|rfl
 ·simp
 ·exact h1
 ·exact h2)).trans (h.block i hi h1 h2)⟩
theorem yE.base{s t:Option Nat}{z a b:World}(h:yE s t a b)(hz:z.grownBy a none)(hs: ∀g,s=some g→z.heap.size≤g)(ht: ∀g,t=some g→z.heap.size≤g):z.grownBy b none:=⟨h.os.trans hz.os,h.tape.trans hz.tape,h.output.trans hz.output,Nat.le_trans hz.size h.size,fun i hi _=>(h.block i (Nat.lt_of_lt_of_le hi hz.size) (fun e=>by have:=hs i e.symm;omega) (fun e=>by have:=ht i e.symm;omega)).trans (hz.block i hi (by simp))⟩
theorem yE.cell{s t:Option Nat}{w w':World}(h:yE s t w w'){g o:Nat}{u:Value}(hc:w.cell? ⟨g,o,none⟩=some u)(hs:some g≠s)(ht:some g≠t):w'.cell? ⟨g,o,none⟩=some u:=(World.cell?_of_block (w:=w) (h.block g (block_lt_of_cell hc) hs ht)).trans hc
section
variable {α β:Type} (E:Enc α) (F:Enc β) (base:Nat) (e f:TypeId) (Z:Nat→Prop) (D:World) (v0 u0:Value) (xs:List α) (ys:List β) (x:α) (y:β)
def Zq(vs:List (Nat×Value))(W:World):Prop:= ∃v u,xU E F base e f Z W v u (if 0∈vs.map (·.1) then xs++ [x] else xs) (if 1∈vs.map (·.1) then ys++ [y] else ys)∧(if 0∈vs.map (·.1) then (∀z,(0,z)∈vs→z=v) else v=v0)∧(if 1∈vs.map (·.1) then (∀z,(1,z)∈vs→z=u) else u=u0)∧yE v0.ownBlock u0.ownBlock D W
def Px:FR.Lt where
 C:=Zq E F base e f Z D v0 u0 xs ys x y
 R q u W W':=(q=0∧W.grownBy W' v0.ownBlock∧xM W v0 u)∨(q=1∧W.grownBy W' u0.ownBlock∧xM W u0 u)
 G W W':=W.grownBy W' none
 g:=fun ⟨v,u,h1,h2,h3,h4⟩ hg=>⟨v,u,h1.kept hg,h2,h3,h4.step hg (.inl rfl)⟩
end
section
variable {α β:Type} {E:Enc α} {F:Enc β} {base:Nat} {e f:TypeId} {Z:Nat→Prop} {D W W':World} {v0 u0:Value} {xs:List α} {ys:List β} {x:α} {y:β} {vs:List (Nat×Value)}
theorem Zq.start(h:xU E F base e f Z D v0 u0 xs ys):Zq E F base e f Z D v0 u0 xs ys x y [] D:=⟨v0,u0,by simpa using h,by simp,by simp,yE.refl _ _ _⟩
theorem Zq.gr(h:Zq E F base e f Z D v0 u0 xs ys x y vs W):yE v0.ownBlock u0.ownBlock D W:=by
 obtain ⟨_,_,_,_,_,h⟩:=h;exact h
theorem Zq.lt(h:Zq E F base e f Z D v0 u0 xs ys x y vs W): ∀q z,(q,z)∈vs→q< 2→ ∀g,z.ownBlock=some g→g< W.heap.size:=by
 obtain ⟨v,u,h1,h2,h3,_⟩:=h;intro q z hz hq g hg;have hm:q∈vs.map (·.1):=List.mem_map.2 ⟨_,hz,rfl⟩;rcases (show q=0∨q=1 by omega) with rfl|rfl
 ·rw [if_pos hm] at h2;rw [h2 z hz] at hg;exact (h1.fst.lt g hg).2
 ·rw [if_pos hm] at h3;rw [h3 z hz] at hg;exact (h1.snd.lt g hg).2
theorem Zq.app0{P:Program}{cs:List Value}{t:TypeId}{bytes b c:Nat}{o:Oper}{a:Act}{K:Act→World→Prop}{Q:Exit→Act→World→Prop}(h:Zq E F base e f Z D v0 u0 xs ys x y vs W)(hn:0 ∉ vs.map (·.1))(hE:zA P t e E.size bytes)
  (hrep:E.rep (fun g=>(Z g∧(∀z,(1,z)∈vs→some g≠z.ownBlock)∧some g≠u0.ownBlock)∧some g≠v0.ownBlock) W cs x) (hcell: ∀j u,cs[j]? =some u→W.cell? ⟨b,j,none⟩=some u) (hlen:(xs.length+1)*bytes≤140737488355328) (hb:base≤W.heap.size) (hN: ∀g,W.heap.size≤g→Z g) (s k:Operand)
  (ho:o.op= .call {callee:= .builtin .append,args:= #[s,k],argTypes:= #[t,t]}) (hs:a.eval s=v0) (hx:a.eval k= .slice (some ⟨b,0,none⟩) 1 c)
  (hK: ∀v' w',(Px E F base e f Z D v0 u0 xs ys x y).R 0 v' W w'∧Zq E F base e f Z D v0 u0 xs ys x y (vs++ [(0,v')]) w'→K (a.put o.dst v') w'):o.wp P a W K Q:=by
 obtain ⟨v,u,h1,h2,h3,h4⟩:=h;rw [if_neg hn] at h1 h2;subst h2;have hu: ∀g,((Z g∧(∀z,(1,z)∈vs→some g≠z.ownBlock)∧some g≠u0.ownBlock)∧some g≠v.ownBlock)→(Z g∧some g≠u.ownBlock)∧some g≠v.ownBlock:=fun g hg=>⟨⟨hg.1.1,by
  by_cases hm:1∈vs.map (·.1)
  ·rw [if_pos hm] at h3;obtain ⟨p,hp,e1⟩:=List.mem_map.1 hm
   have:(1,p.2)∈vs:=by rw [←e1];exact hp
   have e2:=h3 _ this
   have:=hg.1.2.1 _ this
   rw [e2] at this;exact this
  ·rw [if_neg hm] at h3;rw [h3];exact hg.1.2.2⟩,hg.2⟩
 refine yj hE h1.fst (E.more hrep fun g _ hg=>hu g hg) hcell hlen hb (h1.new1 hN) s k ho hs hx fun v' w' ha hg hm=>hK v' w' ⟨.inl ⟨rfl,hg,hm⟩,v',u, ?_, ?_, ?_,h4.step hg (.inr (.inl rfl))⟩
 ·have e0:(0:Nat)∈(vs++ [(0,v')]).map (fun x:Nat×Value=>x.1):=zM.2 (.inr rfl);have e1:((1:Nat)∈(vs++ [(0,v')]).map (fun x:Nat×Value=>x.1))↔(1:Nat)∈vs.map (fun x:Nat×Value=>x.1):=⟨fun h=>(zM.1 h).resolve_right (by decide),fun h=>zM.2 (.inl h)⟩;rw [if_pos e0];simp only [e1];exact h1.one ha hg hm
 ·have e0:(0:Nat)∈(vs++ [(0,v')]).map (fun x:Nat×Value=>x.1):=zM.2 (.inr rfl);rw [if_pos e0];intro z hz;exact Yb hz hn
 ·have e1:((1:Nat)∈(vs++ [(0,v')]).map (fun x:Nat×Value=>x.1))↔(1:Nat)∈vs.map (fun x:Nat×Value=>x.1):=⟨fun h=>(zM.1 h).resolve_right (by decide),fun h=>zM.2 (.inl h)⟩;simp only [e1];by_cases hm1:1∈vs.map (·.1)
  ·rw [if_pos hm1] at h3 ⊢;exact fun z hz=>h3 z (YA hz (by decide))
  ·rw [if_neg hm1] at h3 ⊢;exact h3
theorem Zq.app1{P:Program}{cs:List Value}{t:TypeId}{bytes b c:Nat}{o:Oper}{a:Act}{K:Act→World→Prop}{Q:Exit→Act→World→Prop}(h:Zq E F base e f Z D v0 u0 xs ys x y vs W)(hn:1 ∉ vs.map (·.1))(hE:zA P t f F.size bytes)
  (hrep:F.rep (fun g=>(Z g∧(∀z,(0,z)∈vs→some g≠z.ownBlock)∧some g≠v0.ownBlock)∧some g≠u0.ownBlock) W cs y) (hcell: ∀j u,cs[j]? =some u→W.cell? ⟨b,j,none⟩=some u) (hlen:(ys.length+1)*bytes≤140737488355328) (hb:base≤W.heap.size) (hN: ∀g,W.heap.size≤g→Z g) (s k:Operand)
  (ho:o.op= .call {callee:= .builtin .append,args:= #[s,k],argTypes:= #[t,t]}) (hs:a.eval s=u0) (hx:a.eval k= .slice (some ⟨b,0,none⟩) 1 c)
  (hK: ∀v' w',(Px E F base e f Z D v0 u0 xs ys x y).R 1 v' W w'∧Zq E F base e f Z D v0 u0 xs ys x y (vs++ [(1,v')]) w'→K (a.put o.dst v') w'):o.wp P a W K Q:=by
 obtain ⟨v,u,h1,h2,h3,h4⟩:=h;rw [if_neg hn] at h1 h3;subst h3;have hu: ∀g,((Z g∧(∀z,(0,z)∈vs→some g≠z.ownBlock)∧some g≠v0.ownBlock)∧some g≠u.ownBlock)→(Z g∧some g≠v.ownBlock)∧some g≠u.ownBlock:=fun g hg=>⟨⟨hg.1.1,by
  by_cases hm:0∈vs.map (·.1)
  ·rw [if_pos hm] at h2;obtain ⟨p,hp,e1⟩:=List.mem_map.1 hm
   have:(0,p.2)∈vs:=by rw [←e1];exact hp
   have e2:=h2 _ this
   have:=hg.1.2.1 _ this
   rw [e2] at this;exact this
  ·rw [if_neg hm] at h2;rw [h2];exact hg.1.2.2⟩,hg.2⟩
 refine yj hE h1.snd (F.more hrep fun g _ hg=>hu g hg) hcell hlen hb (h1.new2 hN) s k ho hs hx fun v' w' ha hg hm=>hK v' w' ⟨.inr ⟨rfl,hg,hm⟩,v,v', ?_, ?_, ?_,h4.step hg (.inr (.inr rfl))⟩
 ·have e0:(1:Nat)∈(vs++ [(1,v')]).map (fun x:Nat×Value=>x.1):=zM.2 (.inr rfl);have e1:((0:Nat)∈(vs++ [(1,v')]).map (fun x:Nat×Value=>x.1))↔(0:Nat)∈vs.map (fun x:Nat×Value=>x.1):=⟨fun h=>(zM.1 h).resolve_right (by decide),fun h=>zM.2 (.inl h)⟩;rw [if_pos e0];simp only [e1];exact h1.two ha hg hm
 ·have e1:((0:Nat)∈(vs++ [(1,v')]).map (fun x:Nat×Value=>x.1))↔(0:Nat)∈vs.map (fun x:Nat×Value=>x.1):=⟨fun h=>(zM.1 h).resolve_right (by decide),fun h=>zM.2 (.inl h)⟩;simp only [e1];by_cases hm1:0∈vs.map (·.1)
  ·rw [if_pos hm1] at h2 ⊢;exact fun z hz=>h2 z (YA hz (by decide))
  ·rw [if_neg hm1] at h2 ⊢;exact h2
 ·have e0:(1:Nat)∈(vs++ [(1,v')]).map (fun x:Nat×Value=>x.1):=zM.2 (.inr rfl);rw [if_pos e0];intro z hz;exact Yb hz hn
theorem Zq.fin(h:Zq E F base e f Z D v0 u0 xs ys x y vs W)(h0: ∀q,q< 2↔q∈vs.map (·.1)){v u:Value}(hv:(0,v)∈vs)(hu:(1,u)∈vs):xU E F base e f Z W v u (xs++ [x]) (ys++ [y])∧yE v0.ownBlock u0.ownBlock D W:=by
 obtain ⟨v',u',h1,h2,h3,h4⟩:=h;rw [if_pos ((h0 0).1 (by decide))] at h1 h2;rw [if_pos ((h0 1).1 (by decide))] at h1 h3;rw [h2 v hv,h3 u hu];exact ⟨h1,h4⟩
def NM(n0:Nat)(t:TypeId)(cs:Array Value)(hv: ∀g,v0.ownBlock=some g→g< n0)(hu: ∀g,u0.ownBlock=some g→g< n0):FR.Qv (Px E F base e f Z D v0 u0 xs ys x y):=⟨fun _ v w=> ∃b,v= .slice (some ⟨b,0,none⟩) 1 1∧n0≤b∧Bk w b t cs,fun ⟨b,h1,h2,h3⟩ hg=>⟨b,h1,h2,h3.grown hg (by simp)⟩,fun _ hr ⟨b,h1,h2,h3⟩=>by
 rcases hr with ⟨_,hg,_⟩|⟨_,hg,_⟩
 ·exact ⟨b,h1,h2,h3.grown hg (fun e=>by have:=hv b e.symm;omega)⟩
 ·exact ⟨b,h1,h2,h3.grown hg (fun e=>by have:=hu b e.symm;omega)⟩⟩
def Is{γ:Type}(G:Enc γ)(l:List γ)(n0:Nat)(hv: ∀g,v0.ownBlock=some g→g< n0)(hu: ∀g,u0.ownBlock=some g→g< n0):FR.Qv (Px E F base e f Z D v0 u0 xs ys x y):=⟨fun vs v w=>Sl G (fun g=>n0≤g∧ ∀q z,(q,z)∈vs→q< 2→some g≠z.ownBlock) w v l,fun h hg=>h.kept hg,fun {vs q u v w w'} _ hr h=>by
 have key: ∀s:Value,(∀g,s.ownBlock=some g→g< n0)→xM w s u→w.grownBy w' s.ownBlock→Sl G (fun g=>n0≤g∧ ∀q' z,(q',z)∈vs++ [(q,u)]→q'< 2→some g≠z.ownBlock) w' v l:=fun s hs hm hg=>by
  have h1:Sl G (fun g=>n0≤g∧ ∀q' z,(q',z)∈vs++ [(q,u)]→q'< 2→some g≠z.ownBlock) w v l:=h.more fun g hl hx=>⟨hx.1,fun q' z hz hq' e=>by
   rcases List.mem_append.1 hz with hz|hz
   ·exact hx.2 q' z hz hq' e
   ·rw [List.mem_singleton] at hz;injection hz with _ hz
    subst hz;exact hm.ne hl (fun e'=>by have:=hs g e';omega) e.symm⟩
  exact h1.keep hg fun g hx e=>by have:=hs g e.symm;omega
 rcases hr with ⟨_,hg,hm⟩|⟨_,hg,hm⟩
 ·exact key v0 hv hm hg
 ·exact key u0 hu hm hg⟩
end
end
section
open Go Go.RowKit
section
variable {α:Type} (E:Enc α) (base:Nat) (e:TypeId) (X:Nat→Prop) (D:World) (a0:Value) (L:List α) (y:α) (bO:Nat) (t:TypeId) (cs:Array Value) (s:Nat)
def xO(vs:List (Nat×Value))(W:World):Prop:= ∃a1,Acc E base e X W a1 (if 0∈vs.map (·.1) then L++ [y] else L)∧(if 0∈vs.map (·.1) then (∀z,(0,z)∈vs→z=a1) else a1=a0)∧Bk W bO t (if 1∈vs.map (·.1) then cs.setIfInBounds s a1 else cs)∧yE a0.ownBlock (some bO) D W∧(1∈vs.map (·.1)→0∈vs.map (·.1))∧bO< base
def ON:FR.Lt where
 C:=xO E base e X D a0 L y bO t cs s
 R q u W W':=(q=0∧W.grownBy W' a0.ownBlock∧xM W a0 u)∨(q=1∧W.grownBy W' (some bO))
 G W W':=W.grownBy W' none
 g:=fun ⟨a1,h1,h2,h3,h4,h5⟩ hg=>⟨a1,h1.kept hg,h2,h3.grown hg (by simp),h4.step hg (.inl rfl),h5⟩
end
section
variable {α:Type} {E:Enc α} {base:Nat} {e:TypeId} {X:Nat→Prop} {D W W':World} {a0:Value} {L:List α} {y:α} {bO:Nat} {t:TypeId} {cs:Array Value} {s:Nat} {vs:List (Nat×Value)}
theorem xO.start(h:Acc E base e X D a0 L)(hb:Bk D bO t cs)(hO:bO< base):xO E base e X D a0 L y bO t cs s [] D:=⟨a0,by simpa using h,by simp,by simpa using hb,yE.refl _ _ _,by simp,hO⟩
theorem xO.gr(h:xO E base e X D a0 L y bO t cs s vs W):yE a0.ownBlock (some bO) D W:=by
 obtain ⟨_,_,_,_,h,_⟩:=h;exact h
theorem xO.bk0(h:xO E base e X D a0 L y bO t cs s vs W)(hn:1 ∉ vs.map (·.1)):Bk W bO t cs:=by
 obtain ⟨_,_,_,h,_⟩:=h
 rwa [if_neg hn] at h
theorem xO.app{P:Program}{cx:List Value}{ta:TypeId}{bytes b c:Nat}{o:Oper}{a:Act}{K:Act→World→Prop}{Q:Exit→Act→World→Prop}(h:xO E base e X D a0 L y bO t cs s vs W)(hn:0 ∉ vs.map (·.1))(hE:zA P ta e E.size bytes)
  (hrep:E.rep (fun g=>X g∧some g≠a0.ownBlock) W cx y) (hcell: ∀j u,cx[j]? =some u→W.cell? ⟨b,j,none⟩=some u) (hlen:(L.length+1)*bytes≤140737488355328) (hb:base≤W.heap.size) (hN: ∀g,W.heap.size≤g→X g) (q k:Operand)
  (ho:o.op= .call {callee:= .builtin .append,args:= #[q,k],argTypes:= #[ta,ta]}) (hs:a.eval q=a0) (hx:a.eval k= .slice (some ⟨b,0,none⟩) 1 c)
  (hK: ∀v' w',(ON E base e X D a0 L y bO t cs s).R 0 v' W w'∧xO E base e X D a0 L y bO t cs s (vs++ [(0,v')]) w'→K (a.put o.dst v') w'):o.wp P a W K Q:=by
 obtain ⟨a1,h1,h2,h3,h4,h5,h6⟩:=h;have hn1:1 ∉ vs.map (·.1):=fun hm=>hn (h5 hm)
 rw [if_neg hn] at h1 h2;rw [if_neg hn1] at h3;subst h2;refine yj hE h1 hrep hcell hlen hb hN q k ho hs hx fun v' w' ha hg hm=>hK v' w' ⟨.inl ⟨rfl,hg,hm⟩,v', ?_, ?_, ?_,h4.step hg (.inr (.inl rfl)), ?_,h6⟩
 ·have e0:(0:Nat)∈(vs++ [(0,v')]).map (fun x:Nat×Value=>x.1):=zM.2 (.inr rfl);rw [if_pos e0];exact ha
 ·have e0:(0:Nat)∈(vs++ [(0,v')]).map (fun x:Nat×Value=>x.1):=zM.2 (.inr rfl);rw [if_pos e0];intro z hz;exact Yb hz hn
 ·have e1:(1:Nat) ∉ (vs++ [(0,v')]).map (fun x:Nat×Value=>x.1):=fun h=>hn1 ((zM.1 h).resolve_right (by decide))
  rw [if_neg e1];exact h3.grown hg (fun e=>by have:=(h1.lt bO e.symm).1;omega)
 ·exact fun _=>zM.2 (.inr rfl)
theorem xO.put{u:Value}(h:xO E base e X D a0 L y bO t cs s vs W)(hn:1 ∉ vs.map (·.1)){a1:Value}(ha:(0,a1)∈vs)(hX: ∀g,X g→g≠bO)(hG:W.grownBy W' (some bO))(hb:Bk W' bO t (cs.setIfInBounds s a1)):(ON E base e X D a0 L y bO t cs s).R 1 u W W'∧xO E base e X D a0 L y bO t cs s (vs++ [(1,u)]) W':=by
 obtain ⟨a2,h1,h2,h3,h4,h5,h6⟩:=h;have hm:0∈vs.map (·.1):=List.mem_map.2 ⟨_,ha,rfl⟩;rw [if_pos hm] at h1 h2
 have:=h2 a1 ha
 subst this;have e0:(0:Nat)∈(vs++ [(1,u)]).map (fun x:Nat×Value=>x.1):=zM.2 (.inl hm);have e1:(1:Nat)∈(vs++ [(1,u)]).map (fun x:Nat×Value=>x.1):=zM.2 (.inr rfl);refine ⟨.inr ⟨rfl,hG⟩,a1, ?_, ?_, ?_,h4.step hG (.inr (.inr rfl)),fun _=>e0,h6⟩
 ·rw [if_pos e0];have h7:Acc E base e (fun g=>X g) W a1 (L++ [y]):=h1;refine h7.keep hG fun g hg e=> ?_
  injection e with e
  exact hX g hg e
 ·rw [if_pos e0];exact fun z hz=>h2 z (YA hz (by decide))
 ·rw [if_pos e1];exact hb
theorem xO.fin(h:xO E base e X D a0 L y bO t cs s vs W)(h0: ∀q,q< 2↔q∈vs.map (·.1)): ∃a1,Acc E base e X W a1 (L++ [y])∧Bk W bO t (cs.setIfInBounds s a1)∧yE a0.ownBlock (some bO) D W:=by
 obtain ⟨a1,h1,h2,h3,h4,_⟩:=h;rw [if_pos ((h0 0).1 (by decide))] at h1;rw [if_pos ((h0 1).1 (by decide))] at h3;exact ⟨a1,h1,h3,h4⟩
def Hf(n0:Nat)(t':TypeId)(c':Array Value)(hv: ∀g,a0.ownBlock=some g→g< n0)(hu:bO< n0):FR.Qv (ON E base e X D a0 L y bO t cs s):=⟨fun _ v w=> ∃b,v= .slice (some ⟨b,0,none⟩) 1 1∧n0≤b∧Bk w b t' c',fun ⟨b,h1,h2,h3⟩ hg=>⟨b,h1,h2,h3.grown hg (by simp)⟩,fun _ hr ⟨b,h1,h2,h3⟩=>by
 rcases hr with ⟨_,hg,_⟩|⟨_,hg⟩
 ·exact ⟨b,h1,h2,h3.grown hg (fun e=>by have:=hv b e.symm;omega)⟩
 ·exact ⟨b,h1,h2,h3.grown hg (fun e=>by injection e with e;omega)⟩⟩
end
end
section
open Go
section
variable {P:Program} {Q:Exit→Act→World→Prop} {a0:Act} {w0:World}
end
end
section
open Go Go.RowKit Go.Shelf Go.Maps
attribute [local go_sem] Oper.semAt_some
theorem yE.base'{s:Option Nat}{bO:Nat}{z a b:World}(h:yE s (some bO) a b)(hz:z.grownBy a (some bO))(hs: ∀g,s=some g→z.heap.size≤g):z.grownBy b (some bO):=⟨h.os.trans hz.os,h.tape.trans hz.tape,h.output.trans hz.output,Nat.le_trans hz.size h.size,fun i hi hr=>(h.block i (Nat.lt_of_lt_of_le hi hz.size) (fun e=>by have:=hs i e.symm;omega) hr).trans (hz.block i hi hr)⟩
theorem Gb(w:World)(g o:Nat)(v:Value):w.grownBy (w.setCell ⟨g,o,none⟩ v) (some g):=⟨rfl,rfl,rfl,by simp [World.setCell],fun k _ hne=>Below.heap_setCell w ⟨g,o,none⟩ v k (fun e=>hne (by rw [e]))⟩
theorem OH{o:Oper}{a:Act}{K:Act→World→Prop}{Q:Exit→Act→World→Prop}{w:World}(p v:Operand)(ho:o.op= .store 72 p v)(hd:o.dst=none){g k:Nat}{u c0:Value}(hp:a.eval p= .pointer (some ⟨g,k,none⟩))(hv:a.eval v=u)(hu: ∃A n c,u= .slice A n c)(hc:w.cell? ⟨g,k,none⟩=some c0)(hf:w.frozen? ⟨g,k,none⟩=false)(h:K a (w.setCell ⟨g,k,none⟩ u)):o.wp Tryz.prog a w K Q:=by
 obtain ⟨A,n,c,rfl⟩:=hu;unfold Oper.wp execOp;simp only [ho];rw [hp,hv];clear hp hv ho;go_simp;exact h
theorem xO.shape{α:Type}{E:Enc α}{base:Nat}{e:TypeId}{X:Nat→Prop}{D W:World}{a0:Value}{L:List α}{y:α}{bO:Nat}{t:TypeId}{cs:Array Value}{s:Nat}{vs:List (Nat×Value)}{z:Value}(h:xO E base e X D a0 L y bO t cs s vs W)(hz:(0,z)∈vs): ∃A n c,z= .slice A n c:=by
 obtain ⟨a1,h1,h2,_⟩:=h;have hm:0∈vs.map (·.1):=List.mem_map.2 ⟨_,hz,rfl⟩;rw [if_pos hm] at h2;rw [h2 z hz];have h3:=h1.more (Y:=fun _=>True) (fun _ _ _=>trivial);obtain ⟨A,c,e,_,_⟩:=(h3.sl).form;exact ⟨A,_,c,e⟩
def Kn(w wm wx:World)(bO n s:Nat)(tp:Nat→List (Int×Int)):Prop:= ∃cs:Array Value,Bk wx bO 72 cs∧cs.size=n∧(∀k,k< s→ ∃a,cs[k]? =some a∧Sl zo (fun g=>w.heap.size≤g∧g≠bO) wx a (tp k))∧(∀k,s≤k→k< n→cs[k]? =some (.slice none 0 0))∧wm.grownBy wx (some bO)
def QD(w2 wx:World)(bO n s:Nat)(csS:Array Value)(Z:List (Int×Int)):Prop:= ∃(cs:Array Value) (a:Value),Bk wx bO 72 cs∧cs.size=n∧(∀k,k≠s→cs[k]? =csS[k]?)∧cs[s]? =some a∧Acc zo w2.heap.size 153 (fun g=>w2.heap.size≤g) wx a Z∧w2.grownBy wx (some bO)
theorem QD.fin{w wm w2 wx:World}{bO n s:Nat}{tp:Nat→List (Int×Int)}{csS:Array Value}{Z:List (Int×Int)}(hB:w.heap.size≤w2.heap.size∧bO< w2.heap.size)(q3: ∀k,k< s→ ∃a,csS[k]? =some a∧Sl zo (fun g=>w.heap.size≤g∧g≠bO) w2 a (tp k))(q4: ∀k,s≤k→k< n→csS[k]? =some (.slice none 0 0))(q5:wm.grownBy w2 (some bO))(hT:tp s=Z)(h:QD w2 wx bO n s csS Z):Kn w wm wx bO n (s+1) tp:=by
 obtain ⟨cs,a,h1,h2,h3,h4,h5,h6⟩:=h;refine ⟨cs,h1,h2,fun k hk=> ?_,fun k hk1 hk2=>by rw [h3 k (by omega)];exact q4 k (by omega) hk2,q5.trans h6⟩;by_cases hks:k=s
 ·rw [hks,hT];refine ⟨a,h4,h5.sl.more fun g _ hg=> ?_⟩;have hg:w2.heap.size≤g:=hg;exact ⟨by omega,by omega⟩
 ·obtain ⟨a',ha',hsl⟩:=q3 k (by omega);exact ⟨a',by rw [h3 k hks];exact ha',hsl.keep h6 (fun g hg e=>by injection e with e;exact hg.2 e)⟩
theorem QD.next{w2 wr w3:World}{bO n s:Nat}{csS cs:Array Value}{Z:List (Int×Int)}{y:Int×Int}{a0 a1:Value}(hs:s< n)(h2:cs.size=n)(h3: ∀k,k≠s→cs[k]? =csS[k]?)(p1:Acc zo w2.heap.size 153 (fun g=>w2.heap.size≤g) w3 a1 (Z++ [y]))(p2:Bk w3 bO 72 (cs.setIfInBounds s a1))(p3:yE a0.ownBlock (some bO) wr w3)(hG:w2.grownBy wr (some bO))(hO: ∀g,a0.ownBlock=some g→w2.heap.size≤g):QD w2 w3 bO n s csS (Z++ [y]):=
 ⟨_,a1,p2,by rw [Array.size_setIfInBounds];exact h2,fun k hk=>by rw [Array.getElem?_setIfInBounds_ne (Ne.symm hk)];exact h3 k hk,Array.getElem?_setIfInBounds_self_of_lt (by rw [h2];exact hs),p1,p3.base' hG hO⟩
def Da{α β γ:Type}{E:Enc α}{F:Enc β}{base:Nat}{e f:TypeId}{Z:Nat→Prop}{D:World}{v0 u0:Value}{xs:List α}{ys:List β}{x:α}{y:β}(G:Enc γ)(l:List γ)(t:TypeId)(n0:Nat)(hv: ∀g,v0.ownBlock=some g→g< n0)(hu: ∀g,u0.ownBlock=some g→g< n0):FR.Qv (Px E F base e f Z D v0 u0 xs ys x y):=⟨fun vs v w=> ∃vv,(Is (E:=E) (F:=F) (base:=base) (e:=e) (f:=f) (Z:=Z) (D:=D) (xs:=xs) (ys:=ys) (x:=x) (y:=y) G l n0 hv hu).p vs vv w∧(NM (E:=E) (F:=F) (base:=base) (e:=e) (f:=f) (Z:=Z) (D:=D) (xs:=xs) (ys:=ys) (x:=x) (y:=y) n0 t #[vv] hv hu).p vs v w,fun ⟨vv,a,b⟩ hg=>⟨vv,(Is G l n0 hv hu).st a hg,(NM n0 t #[vv] hv hu).st b hg⟩,fun hC hr ⟨vv,a,b⟩=>⟨vv,(Is G l n0 hv hu).sr hC hr a,(NM n0 t #[vv] hv hu).sr hC hr b⟩⟩
end
section
open Go Go.RowKit Go.Shelf Go.Maps
attribute [local go_sem] Oper.semAt_some
theorem XX(fc:FuncId)(hfc:fc=171∨fc=172)(E:zw)(st:ASt)(gA gM nn:Nat)(one:zL→List (Int×Int))(vby:Value)(bs:List (Int×Int))(X Y:Nat→Prop)(w:World)(hE:E.ok)(hA:AvW X gA gM nn E st w)(hs:yx E st)(hby:Sl QJ Y w vby bs)(hin: ∀h∈bs,(st.heard h.1 h.2).isSome=true)(hpos: ∀h∈bs,0≤h.2)(hl:bs.length≤10)
  (hcall: ∀b x X' w',zJ X' w' b x→Xk E.coms.length x→Calls Tryz.prog fc #[.pointer (some ⟨b,0,none⟩)] w' (zH zo (fun g=>w'.heap.size≤g) w' (one x)))
  (hlen: ∀x,Xk E.coms.length x→(one x).length=E.coms.length):
  Calls Tryz.prog 170 #[.pointer (some ⟨gA,0,none⟩),vby, .func (.func fc) #[] #[]] w (zH (zh zo) (fun g=>w.heap.size≤g) w (yn E st bs one)):=by
 have HA:=za hA;have HBY:=za hby
 have HS:=za hs;have HIN:=za hin;have HPO:=za hpos;have HL:=za hl;have HONE:=za hcall;have HFC:=za hfc;clear hfc;have HLEN:=za hlen;have HE:=za hE;obtain ⟨⟨vc,vd,vo,hb,hco,_⟩,_,_⟩:=hA;have HB:=za hb;have HCO:=za hco;have hr:=hb.rule;obtain ⟨Ab,cb,rfl,_,_⟩:=hby.form;obtain ⟨Ac,cc,rfl,_,_⟩:=hco.form;obtain ⟨xs,hxs⟩: ∃xs,xs=bs.map (·.2):=⟨_,rfl⟩;obtain ⟨ps,hps⟩: ∃ps,ps=bs.map (fun h=>XJ st h one):=⟨_,rfl⟩;obtain ⟨n,hn⟩: ∃n,n=E.coms.length:=⟨_,rfl⟩;obtain ⟨tp,htp⟩: ∃tp:Nat→List (Int×Int),tp=fun s=>(Uy E.p.Q xs (ps.map fun l=>(l[s]?.getD (0,0)).1)).zip (Uy E.p.Q xs (ps.map fun l=>(l[s]?.getD (0,0)).2)):=⟨_,rfl⟩
 have HTP:=za htp;have HNE:=za hn;have HRES:Hid (yn E st bs one=(List.range n).map tp):=za (by rw [htp,hn,hxs,hps];rfl);rw [HRES.out];have HXS:=za hxs;have HPS:=za hps;clear hE hs hby hin hpos hl hcall hlen hb hco HRES hxs hps hn htp;go_enter Tryz.func170,Tryz.ntmps170;go_wp2_with fail;go_loopg [7,8,20] bs.length (fun g s7 s8 s20 wx=> ∃j:Nat,j+g=bs.length∧s20= .int .i64 j∧Hid (xU ze (zh zo) w.heap.size 22 72 (fun g=>w.heap.size≤g) wx s7 s8 (xs.take j) (ps.take j)∧w.grownBy wx none))
 case atStart=>exact ⟨0,by omega,rfl,za ⟨⟨Acc.nil _ _ _ _ _,Acc.nil _ _ _ _ _⟩,gRf⟩⟩
 case round=>
  obtain ⟨j,hj,rfl,HX⟩:=hrel;rcases Nat.eq_zero_or_pos gk with hg0|hg0
  ·obtain rfl:j=bs.length:=by omega
   have HSD:Hid (xU ze (zh zo) w.heap.size 22 72 (fun g=>w.heap.size≤g) wr u7 u8 xs ps∧w.grownBy wr none):=za (by
    have h:=HX.out;rw [List.take_of_length_le (show xs.length≤bs.length by rw [HXS.out,List.length_map];exact Nat.le_refl _),List.take_of_length_le (show ps.length≤bs.length by rw [HPS.out,List.length_map];exact Nat.le_refl _)] at h;exact h)
   have HSX7:=za HSD.out.1.fst.sl;have HSX8:=za HSD.out.1.snd.sl;obtain ⟨A7,c7,e7,_,_⟩:=HSX7.out.form;subst e7;obtain ⟨A8,c8,e8,_,_⟩:=HSX8.out.form;subst e8;have HG:=za HSD.out.2;have hn:=HNE.out;have HN:Hid (n≤10):=za (by rw [hn];exact (Ti HE.out).2);have HPL:Hid (∀l∈ps,l.length=n):=za (fun l hl=>by
    rw [HPS.out] at hl;obtain ⟨h,hh,rfl⟩:=List.mem_map.1 hl;obtain ⟨x,hx⟩:=Option.isSome_iff_exists.1 (HIN.out h hh);unfold XJ;rw [hx,hn];exact HLEN.out x (HS.out.heard _ _ _ hx))
   have HML:Hid (xs.length≤10∧ps.length≤10):=za (by have:=HL.out;rw [HXS.out,HPS.out];simp;omega);have HQ:Hid (U64 E.p.Q):=za HE.out.p.Q;have hr1:=(HB.out.grown HG.out (by simp)).rule;rw [←hn] at hr1;have hmk:=run_make_row' (P:=Tryz.prog) 103 72 (.slice none 0 0) 24 Tryz.underlying103 Yl rfl .i64 .i64 n (by have:=HN.out;omega) (by have:=HN.out;omega);obtain ⟨bO,hbO⟩: ∃bO,bO=wr.heap.size:=⟨_,rfl⟩;obtain ⟨wm,hwm⟩: ∃wm,wm=wr.alloc (.cells (madeCells #[.slice none 0 0] n) 72):=⟨_,rfl⟩;have HB0:Hid (Bk wm bO 72 (madeCells #[.slice none 0 0] n)):=za (by rw [hwm,hbO];exact Bk.new wr _ _);have HGM:Hid (w.grownBy wm none):=za (HG.out.trans (by rw [hwm];exact gAl wr _ none));have HBO:Hid (w.heap.size≤bO∧bO< wm.heap.size):=za ⟨by rw [hbO];exact HG.out.size,by rw [hwm,hbO];simp⟩;have HS7:Hid (Sl ze (fun g=>w.heap.size≤g∧g≠bO) wm (.slice A7 xs.length c7) xs):=za (((HSX7.out.more fun g hl hx=>⟨hx.1,by rw [hbO];exact Nat.ne_of_lt hl⟩).kept (by rw [hwm];exact gAl wr _ none)));have HS8:Hid (Sl (zh zo) (fun g=>w.heap.size≤g∧g≠bO) wm (.slice A8 ps.length c8) ps):=za (((HSX8.out.more fun g hl hx=>⟨hx.1,by rw [hbO];exact Nat.ne_of_lt hl⟩).kept (by rw [hwm];exact gAl wr _ none)));have HGA:Hid (∀W,wm.grownBy W (some bO)→ ∀o,W.cell? ⟨gA,o,none⟩=(zu E (.slice Ac n cc) vd vo gM st.done)[o]?):=za (fun W hW=>by
    rw [hn];refine ((HB.out.grown HGM.out (by simp)).grown hW (fun e=> ?_)).rule;injection e with e
    have:=HB.out.lt
    have:=HBO.out.1
    omega)
   clear HX hg0 hr HSD HSX7 HSX8 HIN HPO HS HONE HLEN HXS HPS hn HCO HBY;go_wp2_with fail;rw [←hbO, ←hwm];clear hmk;go_loopg [50] n (fun g s50 wx=> ∃s:Nat,s+g=n∧s50= .int .i64 s∧Hid (Kn w wm wx bO n s tp))
   case atStart=>exact ⟨0,by omega,rfl,za ⟨_,HB0.out,by rw [←Array.length_toList,toList_madeCells_one];simp,fun k hk=>absurd hk (by omega),fun k _ hk=>by rw [←Array.getElem?_toList,toList_madeCells_one];simp [hk],World.grownBy.refl _ _⟩⟩
   case round=>
    clear hr1 hwm hbO;obtain ⟨s,hs,rfl,HX⟩:=hrel;obtain ⟨wz,hwz⟩: ∃y,y=wr:=⟨_,rfl⟩;subst hwz;rcases Nat.eq_zero_or_pos gk with hg0|hg0
    ·obtain rfl:s=n:=by omega
     have HR:Hid (Sl (zh zo) (fun g=>w.heap.size≤g) wz (.slice (some ⟨bO,0,none⟩) s s) ((List.range s).map tp)∧w.grownBy wz none):=za (by
      obtain ⟨cs,h1,h2,h3,h4,h5⟩:=HX.out;refine ⟨⟨_,s,by simp,by simp,by have:=HN.out;omega,fun _=>⟨bO,0,rfl,h1.lt,HBO.out.1,fun i hi=> ?_⟩⟩,HGM.out.andThen h5 (fun g e=> .inl (by injection e with e;have:=HBO.out.1;omega))⟩;have hi':i< s:=by simpa using hi
      obtain ⟨a,ha,hsl⟩:=h3 i hi';refine ⟨[a],⟨a,rfl,by rw [List.getElem_map,List.getElem_range];exact hsl.more fun g _ h=>h.1⟩,fun j u hj=> ?_⟩;have h0:j=0:=by
       have:=(List.getElem?_eq_some_iff.1 hj).1
       simp at this;exact this
      subst h0;simp at hj;subst hj
      have:=h1.cell i
      rw [ha] at this;simpa [zh] using this)
     clear HX hg0;go_wp2;go_ret;exact ⟨_,rfl,HR.out.1,HR.out.2⟩
    ·have hsn:(s:Int)< (n:Int):=by omega
     have hsN:s< n:=by omega
     have HMS:Hid (n - s - 1< gk∧s+1+(n - s - 1)=n):=za (by omega);have HW9:Hid (wrap64 ((s:Int)+1)=((s+1:Nat):Int)):=za ((ZX (by have:=HN.out;omega)).trans (by omega));have hs0:(0:Int)≤(s:Int):=Int.natCast_nonneg s;have HGZ:Hid (wm.grownBy wz (some bO)):=za (by obtain ⟨_,_,_,_,_,h⟩:=HX.out;exact h);have HOZ:Hid (w.heap.size≤wz.heap.size∧bO< wz.heap.size):=za ⟨by have:=HGM.out.size;have:=HGZ.out.size;omega,by have:=HBO.out.2;have:=HGZ.out.size;omega⟩;have HS7z:Hid (Sl ze (fun g=>w.heap.size≤g∧g≠bO) wz (.slice A7 xs.length c7) xs):=za (HS7.out.keep HGZ.out (fun g hg e=>by injection e with e;exact hg.2 e));have HS8z:Hid (Sl (zh zo) (fun g=>w.heap.size≤g∧g≠bO) wz (.slice A8 ps.length c8) ps):=za (HS8.out.keep HGZ.out (fun g hg e=>by injection e with e;exact hg.2 e));have HGAz:Hid (∀W,wz.grownBy W none→ ∀o,W.cell? ⟨gA,o,none⟩=(zu E (.slice Ac n cc) vd vo gM st.done)[o]?):=za (fun W hW=>HGA.out W (HGZ.out.trans (yS hW)));have HXZ:=za HX.out;clear HX;go_wp2_with fail;go_loopg [13,14,55] ps.length (fun g s13 s14 s55 wx=> ∃i:Nat,i+g=ps.length∧s55= .int .i64 i∧Hid (xU ze ze wz.heap.size 22 22 (fun g=>wz.heap.size≤g) wx s13 s14 ((ps.take i).map fun l=>(l[s]?.getD (0,0)).1) ((ps.take i).map fun l=>(l[s]?.getD (0,0)).2)∧wz.grownBy wx none))
     case atStart=>exact ⟨0,by omega,rfl,za ⟨⟨Acc.nil _ _ _ _ _,Acc.nil _ _ _ _ _⟩,gRf⟩⟩
     case round=>
      obtain ⟨i,hi,rfl,HY⟩:=hrel;rcases Nat.eq_zero_or_pos gk with hg1|hg1
      ·obtain rfl:i=ps.length:=by omega
       have HSY:=za HY.out.1;rw [List.take_length] at HSY;have HGY:=za HY.out.2;obtain ⟨fs,hfs⟩: ∃fs,fs=ps.map fun l=>(l[s]?.getD (0,0)).1:=⟨_,rfl⟩
       obtain ⟨rs,hrs⟩: ∃rs,rs=ps.map fun l=>(l[s]?.getD (0,0)).2:=⟨_,rfl⟩
       have HLS:Hid (fs.length=ps.length∧rs.length=ps.length):=za (by rw [hfs,hrs];simp);rw [←hfs, ←hrs] at HSY;have HTS:Hid (tp s=(Uy E.p.Q xs fs).zip (Uy E.p.Q xs rs)):=za (by rw [HTP.out,hfs,hrs]);have HSF:=za HSY.out.fst.sl;have HSR:=za HSY.out.snd.sl;obtain ⟨A13,c13,e13,_,_⟩:=HSF.out.form;subst e13;obtain ⟨A14,c14,e14,_,_⟩:=HSR.out.form;subst e14;have HT1:=za (fun W (hW:wr.grownBy W none)=>Vt (.slice A7 xs.length c7) (.slice A13 fs.length c13) xs fs E.p.Q TT W ((HS7z.out.kept (HGY.out.trans hW)).more fun _ _ _=>trivial) ((HSF.out.kept hW).more fun _ _ _=>trivial) HQ.out);have HT2:=za (fun W (hW:wr.grownBy W none)=>Vt (.slice A7 xs.length c7) (.slice A14 rs.length c14) xs rs E.p.Q TT W ((HS7z.out.kept (HGY.out.trans hW)).more fun _ _ _=>trivial) ((HSR.out.kept hW).more fun _ _ _=>trivial) HQ.out);have HLT:Hid ((Uy E.p.Q xs fs).length≤10∧(Uy E.p.Q xs rs).length≤10):=za (by have:=Yy E.p.Q xs fs;have:=Yy E.p.Q xs rs;have:=HML.out;omega);obtain ⟨L1,hL1⟩: ∃L1,L1=Uy E.p.Q xs fs:=⟨_,rfl⟩;obtain ⟨L2,hL2⟩: ∃L2,L2=Uy E.p.Q xs rs:=⟨_,rfl⟩;obtain ⟨t1,ht1⟩: ∃t1,t1=OF E.p.Q xs fs:=⟨_,rfl⟩;obtain ⟨t2,ht2⟩: ∃t2,t2=OF E.p.Q xs rs:=⟨_,rfl⟩;rw [←hL1, ←ht1] at HT1;rw [←hL2, ←ht2] at HT2;rw [←hL1, ←hL2] at HTS HLT;clear hL1 hL2 ht1 ht2 hfs hrs HSY HSF HSR HTP hg1 HY;have hr2:=HGAz.out wr HGY.out;go_wp2_with fail;refine (HT1.out wr (World.grownBy.refl _ _)).mono ?_;rintro e w1 ⟨v1,rfl,hs1,hg1⟩;obtain ⟨A1,c1,e1,_,_⟩:=hs1.form;subst e1;have HG1:=za (HGY.out.trans hg1);have HL1:=za hs1;have hr3:=HGAz.out w1 HG1.out
       have HT2:=za (HT2.out w1 hg1);clear hr2 HT1 hs1 hg1;go_wp2_with fail;refine HT2.out.mono ?_;rintro e w2 ⟨v2,rfl,hs2,hg2⟩;obtain ⟨A2,c2,e2,_,_⟩:=hs2.form;subst e2;have HG2:=za (HG1.out.trans hg2);have HOZ2:Hid (wz.heap.size≤w1.heap.size∧wz.heap.size≤wr.heap.size):=za ⟨HG1.out.size,HGY.out.size⟩;have HF2:Hid (Sl ze (fun g=>w.heap.size≤g∧g≠bO) w2 (.slice A1 L1.length c1) L1∧Sl ze (fun g=>w.heap.size≤g∧g≠bO) w2 (.slice A2 L2.length c2) L2):=za ⟨(HL1.out.kept hg2).more fun g _ hg=>by have:=HOZ.out;have:=HOZ2.out;exact ⟨by omega,by omega⟩,hs2.more fun g _ hg=>by have:=HOZ.out;have:=HOZ2.out;exact ⟨by omega,by omega⟩⟩;clear hr3 HT2 hs2 hg2 HL1;have HXY:Hid (∃cs:Array Value,Bk w2 bO 72 cs∧cs.size=n∧(∀k,k< s→ ∃a,cs[k]? =some a∧Sl zo (fun g=>w.heap.size≤g∧g≠bO) w2 a (tp k))∧(∀k,s≤k→k< n→cs[k]? =some (.slice none 0 0))∧wm.grownBy w2 (some bO)):=za (by
        obtain ⟨cs,h1,h2,h3,h4,h5⟩:=HXZ.out;exact ⟨cs,h1.grown HG2.out (by simp),h2,fun k hk=>by obtain ⟨a,ha,hsl⟩:=h3 k hk;exact ⟨a,ha,hsl.kept HG2.out⟩,h4,h5.trans (yS HG2.out)⟩)
       have HBB:Hid (w.heap.size≤w2.heap.size∧bO< w2.heap.size):=za ⟨by have:=HOZ.out;have:=HG2.out.size;omega,by have:=HOZ.out;have:=HG2.out.size;omega⟩;obtain ⟨M,hM⟩: ∃M,M=min L1.length L2.length:=⟨_,rfl⟩;have HMM:Hid (M≤L1.length∧M≤L2.length∧(L1.zip L2).length=M):=za (by rw [hM,List.length_zip];omega);clear HXZ HG2 HG1 HGY HOZ2;have HU1:=za (Mw HF2.out.1);have HU2:=za (Mw HF2.out.2);have hmin:min (L1.length:Int) (L2.length:Int)=(M:Int):=by omega
       obtain ⟨csS,q1,q2,q3,q4,q5⟩:=HXY.out;have HCS:=za q1;have HQ3:=za q3;have HQ4:=za q4;have HQ5:=za q5;have HSZ:=za q2;clear hM HXY q1 q2 q3 q4 q5;go_wp2_with fail;clear hmin;go_loopg [103] M (fun g s103 wx=> ∃i:Nat,i+g=M∧s103= .int .i64 i∧Hid (QD w2 wx bO n s csS ((L1.zip L2).take i)))
       case atStart=>exact ⟨0,by omega,rfl,za ⟨csS, .slice none 0 0,HCS.out,HSZ.out,fun _ _=>rfl,HQ4.out s (Nat.le_refl _) hsN,Acc.nil _ _ _ _ _,World.grownBy.refl _ _⟩⟩
       case round=>
        obtain ⟨i2,hi2,rfl,HY⟩:=hrel;rcases Nat.eq_zero_or_pos gk with hg3|hg3
        ·have hiM:i2=M:=by omega
         rw [hiM] at HY;have HF:Hid (Kn w wm wr bO n (s+1) tp):=za (QD.fin HBB.out HQ3.out HQ4.out HQ5.out HTS.out (by
          have h:=HY.out;rw [List.take_of_length_le (Nat.le_of_eq HMM.out.2.2)] at h;exact h))
         clear HY hg3 hi2;rw [hiM];clear hiM;go_wp2_with fail;go_roundg (n - s - 1)
         case measure=>exact HMS.out.1
         case rel=>exact ⟨s+1,HMS.out.2,congrArg (Value.int .i64) HW9.out,HF⟩
        ·have hiM:i2< M:=by omega
         have hi1:i2< L1.length:=by have:=HMM.out;omega
         have hi2':i2< L2.length:=by have:=HMM.out;omega
         have hi1I:(i2:Int)< (L1.length:Int):=by omega
         have hi2I:(i2:Int)< (L2.length:Int):=by omega
         have hiMI:(i2:Int)< (M:Int):=by omega
         obtain ⟨cs,a0,h1,h2,h3,h4,h5,h6⟩:=HY.out;obtain ⟨g1,o1,c1',e1,hgl1,hgx1,hca0,hua⟩:=HF2.out.1.atU hi1;injection e1 with e11 e12 e13
         subst e11 e13;obtain ⟨g2,o2,c2',e2,hgl2,hgx2,hcb0,hub⟩:=HF2.out.2.atU hi2';injection e2 with e21 e22 e23
         subst e21 e23;have hca:wr.cell? ⟨g1,o1+i2,none⟩=some (.int .u64 L1[i2]):=Xj hca0 h6 (fun e=>by injection e with e;exact hgx1.2 e);have hcb:wr.cell? ⟨g2,o2+i2,none⟩=some (.int .u64 L2[i2]):=Xj hcb0 h6 (fun e=>by injection e with e;exact hgx2.2 e);have HSN:Hid ((L1.zip L2).take (i2+1)=(L1.zip L2).take i2++ [(L1[i2],L2[i2])]):=za (by rw [List.take_succ_eq_append_getElem (by rw [HMM.out.2.2];exact hiM),List.getElem_zip]);have HU:Hid (U64 L1[i2]∧U64 L2[i2]):=za ⟨hua,hub⟩;have HGD:Hid (w2.grownBy wr.drew (some bO)):=za (h6.trans (yS (zb wr 1)));have HOW:Hid (∀g,a0.ownBlock=some g→w2.heap.size≤g∧g< wr.drew.heap.size):=za fun g e=>h5.lt g e
         have HOV:Hid ((∀g,a0.ownBlock=some g→g< wr.drew.heap.size)∧bO< wr.drew.heap.size):=za ⟨fun g e=>(HOW.out g e).2,by have:=HBB.out.2;have:=HGD.out.size;omega⟩;have HC0:Hid (xO zo w2.heap.size 153 (fun g=>w2.heap.size≤g) wr.drew a0 ((L1.zip L2).take i2) (L1[i2],L2[i2]) bO 72 cs s [] wr.drew):=za (xO.start (h5.kept (zb wr 1)) (h1.grown (zb wr 1) (by simp)) HBB.out.2);have HXB:Hid (∀g,w2.heap.size≤g→g≠bO):=za (fun g hg e=>by have:=HBB.out.2;omega);have HLB:Hid ((((L1.zip L2).take i2).length+1)*16≤140737488355328):=za (by have:=HLT.out;rw [List.length_take];omega);have HK3:=za h3;have HK4:=za h4;have HK2:=za h2;obtain ⟨LT,hLT⟩: ∃LT,LT=(L1.zip L2).take i2:=⟨_,rfl⟩;rw [←hLT] at HC0 HSN HLB;obtain ⟨z1,hz1⟩: ∃z,z=L1[i2]:=⟨_,rfl⟩;obtain ⟨z2,hz2⟩: ∃z,z=L2[i2]:=⟨_,rfl⟩;rw [←hz1, ←hz2] at HC0 HSN HU;rw [←hz1] at hca;rw [←hz2] at hcb;have HLD:Hid (∀vs W,xO zo w2.heap.size 153 (fun g=>w2.heap.size≤g) wr.drew a0 LT (z1,z2) bO 72 cs s vs W→W.cell? ⟨g1,o1+i2,none⟩=some (.int .u64 z1)∧W.cell? ⟨g2,o2+i2,none⟩=some (.int .u64 z2)∧wr.drew.heap.size≤W.heap.size∧w2.heap.size≤W.heap.size):=za (fun vs W hC=>by
          have hgr:=hC.gr;have hs1:=HGD.out.size;have hs2:=hgr.size;exact ⟨hgr.cell (w:=wr.drew) hca (fun e=>by have:=(HOW.out g1 e.symm).1;omega) (fun e=>by injection e with e;exact hgx1.2 e),hgr.cell (w:=wr.drew) hcb (fun e=>by have:=(HOW.out g2 e.symm).1;omega) (fun e=>by injection e with e;exact hgx2.2 e),hs2,Nat.le_trans hs1 hs2⟩)
         clear hLT hz1 hz2 hca hcb hca0 hcb0 hua hub h1 h2 h3 h4 h5 h6 HY e12 e22 hgx1 hgx2;go_wp2_with fail;refine FR.wp_region_late (ON zo w2.heap.size 153 (fun g=>w2.heap.size≤g) wr.drew a0 LT (z1,z2) bO 72 cs s) [16,18] 19 (by kernel_rfl) (by kernel_rfl) (by kernel_rfl) HC0.out ?_;refine FR.mS (.slice (some ⟨bO,0,none⟩) n n) [] (fun vs w' hC=>FR.kD fun K hK=> ?_) ?_
         ·go_simp;exact hK _ _ rfl ⟨rfl,gRf⟩
         refine FR.mS (.int .i64 s) [] (fun vs w' hC=>FR.kD fun K hK=> ?_) ?_
         ·go_simp;exact hK _ _ rfl ⟨rfl,gRf⟩
         refine FR.mS (.slice (some ⟨bO,0,none⟩) n n) [] (fun vs w' hC=>FR.kD fun K hK=> ?_) ?_
         ·go_simp;exact hK _ _ rfl ⟨rfl,gRf⟩
         refine FR.mS (.int .i64 s) [] (fun vs w' hC=>FR.kD fun K hK=> ?_) ?_
         ·go_simp;exact hK _ _ rfl ⟨rfl,gRf⟩
         refine FR.mS (.pointer (some ⟨bO,s,none⟩)) [(2,108),(3,109)] (fun vs w' hC=>FR.pQ (FR.pQ (FR.kD fun K hK=> ?_))) ?_
         ·go_simp;exact hK _ _ rfl ⟨rfl,gRf⟩
         refine FR.LateR.monoN (FR.Qv.eq (a0)) [(4,110)] [0,1] (by kernel_rfl) (by rfl) (by kernel_rfl) (fun vs w' hq hC=> ?_) ?_
         ·intro x110 h110;have e110:x110= .pointer (some ⟨bO,s,none⟩):=h110;clear h110;subst e110;refine FR.askl_do rfl fun K hK=> ?_
          have hC:xO _ _ _ _ _ _ _ _ _ _ _ _ vs w':=hC;obtain ⟨l1,l2,l3,l4⟩:=HLD.out vs w' hC;have c5:w'.cell? ⟨bO,s,none⟩=some a0:=by rw [(hC.bk0 (hq 1 (by simp))).cell s];exact HK4.out
          go_simp;exact hK _ _ rfl ⟨rfl,gRf⟩
         refine FR.mS (.slice (some ⟨g1,o1,none⟩) L1.length c1) [] (fun vs w' hC=>FR.kD fun K hK=> ?_) ?_
         ·go_simp;exact hK _ _ rfl ⟨rfl,gRf⟩
         refine FR.mS (.int .i64 i2) [] (fun vs w' hC=>FR.kD fun K hK=> ?_) ?_
         ·go_simp;exact hK _ _ rfl ⟨rfl,gRf⟩
         refine FR.mS (.pointer (some ⟨g1,o1+i2,none⟩)) [(6,112),(7,113)] (fun vs w' hC=>FR.pQ (FR.pQ (FR.kD fun K hK=> ?_))) ?_
         ·go_simp;exact hK _ _ rfl ⟨rfl,gRf⟩
         refine FR.mS (.int .u64 z1) [(8,114)] (fun vs w' hC=>FR.pQ (FR.kD fun K hK=> ?_)) ?_
         ·have hC:xO _ _ _ _ _ _ _ _ _ _ _ _ vs w':=hC;obtain ⟨l1,l2,l3,l4⟩:=HLD.out vs w' hC;go_simp;exact hK _ _ rfl ⟨rfl,gRf⟩
         refine FR.mS (.slice (some ⟨g2,o2,none⟩) L2.length c2) [] (fun vs w' hC=>FR.kD fun K hK=> ?_) ?_
         ·go_simp;exact hK _ _ rfl ⟨rfl,gRf⟩
         refine FR.mS (.int .i64 i2) [] (fun vs w' hC=>FR.kD fun K hK=> ?_) ?_
         ·go_simp;exact hK _ _ rfl ⟨rfl,gRf⟩
         refine FR.mS (.pointer (some ⟨g2,o2+i2,none⟩)) [(10,116),(11,117)] (fun vs w' hC=>FR.pQ (FR.pQ (FR.kD fun K hK=> ?_))) ?_
         ·go_simp;exact hK _ _ rfl ⟨rfl,gRf⟩
         refine FR.mS (.int .u64 z2) [(12,118)] (fun vs w' hC=>FR.pQ (FR.kD fun K hK=> ?_)) ?_
         ·have hC:xO _ _ _ _ _ _ _ _ _ _ _ _ vs w':=hC;obtain ⟨l1,l2,l3,l4⟩:=HLD.out vs w' hC;go_simp;exact hK _ _ rfl ⟨rfl,gRf⟩
         refine FR.mS (.agg #[.int .u64 z1, .int .u64 z2]) [(9,115),(13,119)] (fun vs w' hC=>FR.pQ (FR.pQ (FR.kD fun K hK=> ?_))) ?_
         ·go_simp;exact hK _ _ rfl ⟨rfl,gRf⟩
         refine FR.mV (Hf wr.drew.heap.size 153 #[.int .u64 z1, .int .u64 z2] HOV.out.1 HOV.out.2) [(14,120)] (fun vs w' hC=>FR.pQ (FR.kD fun K hK=> ?_)) ?_
         ·have hC:xO _ _ _ _ _ _ _ _ _ _ _ _ vs w':=hC;obtain ⟨l1,l2,l3,l4⟩:=HLD.out vs w' hC;go_simp;exact hK _ _ rfl ⟨⟨_,rfl,l3,Bk.new w' _ _⟩,gAl w' _ none⟩
         refine FR.LateR.turn 0 [(5,111),(15,121)] (by kernel_rfl) [] rfl (by kernel_rfl) (fun vs w' hn hr hC=> ?_) ?_
         ·intro x111 h111;intro x121 h121;have h121: ∃b,x121= .slice (some ⟨b,0,none⟩) 1 1∧wr.drew.heap.size≤b∧Bk w' b 153 #[.int .u64 z1, .int .u64 z2]:=h121;obtain ⟨b121,e121,k121,l121⟩:=h121;subst e121;have e111:x111=a0:=h111;clear h111;subst e111;refine FR.askl_do rfl fun K hK=> ?_
          have hC:xO _ _ _ _ _ _ _ _ _ _ _ _ vs w':=hC;obtain ⟨l1,l2,l3,l4⟩:=HLD.out vs w' hC;refine xO.app hC hn YE (cx:= [.int .u64 z1, .int .u64 z2]) ⟨rfl,HU.out⟩ (fun j u hu=>by rw [l121.cell j];simpa using hu) HLB.out l4 (fun g hg=>Nat.le_trans l4 hg) (.tmp 111) (.tmp 121) rfl rfl rfl fun v' w2 hr=>hK _ _ rfl hr
         refine FR.mS (.pointer (some ⟨bO,s,none⟩)) [(0,106),(1,107)] (fun vs w' hC=>FR.pQ (FR.pQ (FR.kD fun K hK=> ?_))) ?_
         ·go_simp;exact hK _ _ rfl ⟨rfl,gRf⟩
         refine FR.LateR.turn 1 [(17,123),(16,122)] (by kernel_rfl) [] rfl (by kernel_rfl) (fun vs w' hn hr hC=> ?_) ?_
         ·intro x123 h123;intro x122 h122;have e123:x123= .pointer (some ⟨bO,s,none⟩):=h123;clear h123;subst e123;refine FR.askl_do rfl fun K hK=> ?_
          have hC:xO _ _ _ _ _ _ _ _ _ _ _ _ vs w':=hC;have h122:(0,x122)∈vs:=h122;have hb:=hC.bk0 hn;exact OH (.tmp 123) (.tmp 122) rfl rfl rfl rfl (hC.shape h122) (by rw [hb.cell s];exact HK4.out) (hb.free s) (hK _ _ rfl (hC.put (u:=undef) hn h122 HXB.out (Gb w' bO s _) (hb.set s _)))
         intro vs w3 hvl hC3;have hC3:xO _ _ _ _ _ _ _ _ _ _ _ _ vs w3:=hC3
         iterate 19 (refine pD ?_;intro _)
         have HF:Hid (QD w2 w3 bO n s csS ((L1.zip L2).take (i2+1))):=za (by
          obtain ⟨a1,p1,p2,p3⟩:=hC3.fin hvl.2;rw [HSN.out];exact QD.next hsN HK2.out HK3.out p1 p2 p3 HGD.out (fun g e=>(HOW.out g e).1))
         clear hvl hC3 HLD HC0;simp only [Act.put,sAa,sAb,sAc];show wpList _ _ _ _ _ _;refine wpList_nil ?_;go_wp2_with fail;go_roundg (gk - 1)
         case measure=>omega
         case rel=>exact ⟨i2+1,by omega,by go_num,HF⟩
      ·have hin:(i:Int)< (ps.length:Int):=by omega
       have hiN:i< ps.length:=by omega
       have hi0:(0:Int)≤(i:Int):=Int.natCast_nonneg i;obtain ⟨hsd,hg⟩:=HY.out;obtain ⟨g,o,c',u,e,hgl,hgx,hcu0,hsu⟩:=HS8z.out.atS hiN;injection e with e1 e2 e3
       subst e1 e3;have hcu:wr.cell? ⟨g,o+i,none⟩=some u:=cell_kept hcu0 hg (by simp);have hln:=HPL.out _ (List.getElem_mem hiN);have hsl:s< ps[i].length:=by omega
       obtain ⟨A1,c1,e1,_,_⟩:=hsu.form;subst e1;obtain ⟨g2,o2,c2,e2',hg2l,hg2x,hcx0,hcy0,hux,huy⟩:=hsu.atP hsl;injection e2' with e21 e22 e23
       subst e21 e23;have hslI:(s:Int)< (ps[i].length:Int):=by omega
       have HF1:Hid ((ps.take (i+1)).map (fun l=>(l[s]?.getD (0,0)).1)=(ps.take i).map (fun l=>(l[s]?.getD (0,0)).1)++ [ps[i][s].1]):=za (by rw [List.take_succ_eq_append_getElem hiN,List.map_append,List.map_cons,List.map_nil,List.getElem?_eq_getElem hsl,Option.getD_some]);have HF2:Hid ((ps.take (i+1)).map (fun l=>(l[s]?.getD (0,0)).2)=(ps.take i).map (fun l=>(l[s]?.getD (0,0)).2)++ [ps[i][s].2]):=za (by rw [List.take_succ_eq_append_getElem hiN,List.map_append,List.map_cons,List.map_nil,List.getElem?_eq_getElem hsl,Option.getD_some]);obtain ⟨fs,hfs⟩: ∃fs,fs=(ps.take i).map fun l=>(l[s]?.getD (0,0)).1:=⟨_,rfl⟩
       obtain ⟨rs,hrs⟩: ∃rs,rs=(ps.take i).map fun l=>(l[s]?.getD (0,0)).2:=⟨_,rfl⟩
       have HLB:Hid (fs.length+1≤11∧rs.length+1≤11):=za (by rw [hfs,hrs];have:=HML.out;simp;omega);rw [←hfs] at hsd HF1;rw [←hrs] at hsd HF2;have HU:Hid (U64 ps[i][s].1∧U64 ps[i][s].2):=za ⟨hux,huy⟩;have HSD:Hid (xU ze ze wz.heap.size 22 22 (fun g=>wz.heap.size≤g) wr.drew u13 u14 fs rs):=za (hsd.kept (zb wr 1));have HGD:Hid (wz.grownBy wr.drew none):=za (hg.trans (zb wr 1));have HOW:Hid ((∀g,u13.ownBlock=some g→wz.heap.size≤g∧g< wr.drew.heap.size)∧ ∀g,u14.ownBlock=some g→wz.heap.size≤g∧g< wr.drew.heap.size):=za ⟨fun g e=>HSD.out.fst.lt g e,fun g e=>HSD.out.snd.lt g e⟩;have HOV:Hid ((∀g,u13.ownBlock=some g→g< wr.drew.heap.size)∧ ∀g,u14.ownBlock=some g→g< wr.drew.heap.size):=za ⟨fun g e=>(HOW.out.1 g e).2,fun g e=>(HOW.out.2 g e).2⟩;obtain ⟨z1,hz1⟩: ∃z,z=ps[i][s].1:=⟨_,rfl⟩;obtain ⟨z2,hz2⟩: ∃z,z=ps[i][s].2:=⟨_,rfl⟩;obtain ⟨ln,hlne⟩: ∃z,z=ps[i].length:=⟨_,rfl⟩;rw [←hz1] at hcx0 HF1 HU;rw [←hz2] at hcy0 HF2 HU;rw [←hlne] at hslI hcu;clear hz1 hz2 hfs hrs hux huy hsd hsu HY e2 e22 hln hsl hlne hcu0 hgx;have HC0:Hid (Zq ze ze wz.heap.size 22 22 (fun g=>wz.heap.size≤g) wr.drew u13 u14 fs rs z1 z2 [] wr.drew):=za (Zq.start HSD.out);have HLD:Hid (∀vs W,Zq ze ze wz.heap.size 22 22 (fun g=>wz.heap.size≤g) wr.drew u13 u14 fs rs z1 z2 vs W→W.cell? ⟨g2,o2+s*2,none⟩=some (.int .u64 z1)∧W.cell? ⟨g2,o2+s*2+1,none⟩=some (.int .u64 z2)∧wr.drew.heap.size≤W.heap.size∧wz.grownBy W none):=za (fun vs W hC=>by
        have hgr:=hC.gr;have hw:=hgr.base HGD.out (fun g e=>(HOW.out.1 g e).1) (fun g e=>(HOW.out.2 g e).1);exact ⟨cell_kept hcx0 hw (by simp),cell_kept hcy0 hw (by simp),hgr.size,hw⟩)
       clear hcx0 hcy0 hg;go_wp2_with fail;refine FR.wp_region_late (Px ze ze wz.heap.size 22 22 (fun g=>wz.heap.size≤g) wr.drew u13 u14 fs rs z1 z2) [7,15] 18 (by kernel_rfl) (by kernel_rfl) (by kernel_rfl) HC0.out ?_;refine FR.mS (u13) [] (fun vs w' hC=>FR.kD fun K hK=> ?_) ?_
       ·go_simp;exact hK _ _ rfl ⟨rfl,gRf⟩
       refine FR.mS (.slice (some ⟨g2,o2,none⟩) ln c1) [] (fun vs w' hC=>FR.kD fun K hK=> ?_) ?_
       ·go_simp;exact hK _ _ rfl ⟨rfl,gRf⟩
       refine FR.mS (.int .i64 s) [] (fun vs w' hC=>FR.kD fun K hK=> ?_) ?_
       ·go_simp;exact hK _ _ rfl ⟨rfl,gRf⟩
       refine FR.mS (.pointer (some ⟨g2,o2+s*2,none⟩)) [(1,60),(2,61)] (fun vs w' hC=>FR.pQ (FR.pQ (FR.kD fun K hK=> ?_))) ?_
       ·go_simp;exact hK _ _ rfl ⟨rfl,gRf⟩
       refine FR.mS (.pointer (some ⟨g2,o2+s*2,none⟩)) [(3,62)] (fun vs w' hC=>FR.pQ (FR.kD fun K hK=> ?_)) ?_
       ·go_simp;exact hK _ _ rfl ⟨rfl,gRf⟩
       refine FR.mS (.int .u64 z1) [(4,63)] (fun vs w' hC=>FR.pQ (FR.kD fun K hK=> ?_)) ?_
       ·have hC:Zq _ _ _ _ _ _ _ _ _ _ _ _ _ vs w':=hC;obtain ⟨l1,l2,l3,l4⟩:=HLD.out vs w' hC;go_simp;exact hK _ _ rfl ⟨rfl,gRf⟩
       refine FR.mV (NM wr.drew.heap.size 22 #[.int .u64 z1] HOV.out.1 HOV.out.2) [(5,64)] (fun vs w' hC=>FR.pQ (FR.kD fun K hK=> ?_)) ?_
       ·have hC:Zq _ _ _ _ _ _ _ _ _ _ _ _ _ vs w':=hC;obtain ⟨l1,l2,l3,l4⟩:=HLD.out vs w' hC;go_simp;exact hK _ _ rfl ⟨⟨_,rfl,l3,Bk.new w' _ _⟩,gAl w' _ none⟩
       refine FR.LateR.turn 0 [(0,59),(6,65)] (by kernel_rfl) [] rfl (by kernel_rfl) (fun vs w' hn hr hC=> ?_) ?_
       ·intro x59 h59;intro x65 h65;have h65: ∃b,x65= .slice (some ⟨b,0,none⟩) 1 1∧wr.drew.heap.size≤b∧Bk w' b 22 #[.int .u64 z1]:=h65;obtain ⟨b65,e65,k65,l65⟩:=h65;subst e65;have e59:x59=u13:=h59;clear h59;subst e59;refine FR.askl_do rfl fun K hK=> ?_
        have hC:Zq _ _ _ _ _ _ _ _ _ _ _ _ _ vs w':=hC;obtain ⟨l1,l2,l3,l4⟩:=HLD.out vs w' hC;refine Zq.app0 hC hn xd ⟨rfl,HU.out.1⟩ (Bk.one l65) (by have:=HLB.out;omega) l4.size (fun g hg=>Nat.le_trans l4.size hg) (.tmp 59) (.tmp 65) rfl rfl rfl fun v' w2 hr=>hK _ _ rfl hr
       refine FR.mS (u14) [] (fun vs w' hC=>FR.kD fun K hK=> ?_) ?_
       ·go_simp;exact hK _ _ rfl ⟨rfl,gRf⟩
       refine FR.mS (.slice (some ⟨g2,o2,none⟩) ln c1) [] (fun vs w' hC=>FR.kD fun K hK=> ?_) ?_
       ·go_simp;exact hK _ _ rfl ⟨rfl,gRf⟩
       refine FR.mS (.int .i64 s) [] (fun vs w' hC=>FR.kD fun K hK=> ?_) ?_
       ·go_simp;exact hK _ _ rfl ⟨rfl,gRf⟩
       refine FR.mS (.pointer (some ⟨g2,o2+s*2,none⟩)) [(9,68),(10,69)] (fun vs w' hC=>FR.pQ (FR.pQ (FR.kD fun K hK=> ?_))) ?_
       ·go_simp;exact hK _ _ rfl ⟨rfl,gRf⟩
       refine FR.mS (.pointer (some ⟨g2,o2+s*2+1,none⟩)) [(11,70)] (fun vs w' hC=>FR.pQ (FR.kD fun K hK=> ?_)) ?_
       ·go_simp;exact hK _ _ rfl ⟨rfl,gRf⟩
       refine FR.mS (.int .u64 z2) [(12,71)] (fun vs w' hC=>FR.pQ (FR.kD fun K hK=> ?_)) ?_
       ·have hC:Zq _ _ _ _ _ _ _ _ _ _ _ _ _ vs w':=hC;obtain ⟨l1,l2,l3,l4⟩:=HLD.out vs w' hC;go_simp;exact hK _ _ rfl ⟨rfl,gRf⟩
       refine FR.mV (NM wr.drew.heap.size 22 #[.int .u64 z2] HOV.out.1 HOV.out.2) [(13,72)] (fun vs w' hC=>FR.pQ (FR.kD fun K hK=> ?_)) ?_
       ·have hC:Zq _ _ _ _ _ _ _ _ _ _ _ _ _ vs w':=hC;obtain ⟨l1,l2,l3,l4⟩:=HLD.out vs w' hC;go_simp;exact hK _ _ rfl ⟨⟨_,rfl,l3,Bk.new w' _ _⟩,gAl w' _ none⟩
       refine FR.LateR.turn 1 [(8,67),(14,73)] (by kernel_rfl) [] rfl (by kernel_rfl) (fun vs w' hn hr hC=> ?_) ?_
       ·intro x67 h67;intro x73 h73;have h73: ∃b,x73= .slice (some ⟨b,0,none⟩) 1 1∧wr.drew.heap.size≤b∧Bk w' b 22 #[.int .u64 z2]:=h73;obtain ⟨b73,e73,k73,l73⟩:=h73;subst e73;have e67:x67=u14:=h67;clear h67;subst e67;refine FR.askl_do rfl fun K hK=> ?_
        have hC:Zq _ _ _ _ _ _ _ _ _ _ _ _ _ vs w':=hC;obtain ⟨l1,l2,l3,l4⟩:=HLD.out vs w' hC;refine Zq.app1 hC hn xd ⟨rfl,HU.out.2⟩ (Bk.one l73) (by have:=HLB.out;omega) l4.size (fun g hg=>Nat.le_trans l4.size hg) (.tmp 67) (.tmp 73) rfl rfl rfl fun v' w2 hr=>hK _ _ rfl hr
       refine FR.mV (FR.Qv.slot 0) [(7,66)] (fun vs w' hC x66 h66=>FR.kD fun K hK=> ?_) ?_
       ·have h66:(0,x66)∈vs:=h66;go_simp;exact hK _ _ rfl ⟨h66,gRf⟩
       refine FR.mV (FR.Qv.slot 1) [(15,74)] (fun vs w' hC x74 h74=>FR.kD fun K hK=> ?_) ?_
       ·have h74:(1,x74)∈vs:=h74;go_simp;exact hK _ _ rfl ⟨h74,gRf⟩
       intro vs w3 hvl hC3;have hC3:Zq _ _ _ _ _ _ _ _ _ _ _ _ _ vs w3:=hC3
       iterate 16 (refine pD ?_;intro _)
       intro y16 k16 y17 k17;have k16:(0,y16)∈vs:=k16;have k17:(1,y17)∈vs:=k17;have hf:=hC3.fin hvl.2 k16 k17;have HF:Hid (xU ze ze wz.heap.size 22 22 (fun g=>wz.heap.size≤g) w3 y16 y17 ((ps.take (i+1)).map fun l=>(l[s]?.getD (0,0)).1) ((ps.take (i+1)).map fun l=>(l[s]?.getD (0,0)).2)∧wz.grownBy w3 none):=za ⟨by rw [HF1.out,HF2.out];exact hf.1,(HLD.out vs w3 hC3).2.2.2⟩;clear k16 k17 hvl hC3 hf HLD HC0;simp only [Act.put,sAa,sAb,sAc];show wpList _ _ _ _ _ _;refine wpList_nil ?_;go_wp2_with fail;go_roundg (gk - 1)
       case measure=>omega
       case rel=>exact ⟨i+1,by omega,by go_num,HF⟩
  ·have hjn:(j:Int)< (bs.length:Int):=by omega
   have hjN:j< bs.length:=by omega
   obtain ⟨hsd,hg⟩:=HX.out;obtain ⟨g,o,c',e,_,_,hc10,hc20,hu8,hui⟩:=HBY.out.atL hjN;injection e with e1 e2 e3
   subst e1 e3;have hc1:wr.cell? ⟨g,o+j*2,none⟩=some (.int .u8 bs[j].1):=cell_kept hc10 hg (by simp);have hc2:wr.cell? ⟨g,o+j*2+1,none⟩=some (.int .i64 bs[j].2):=cell_kept hc20 hg (by simp);obtain ⟨x,hx⟩:=Option.isSome_iff_exists.1 (HIN.out _ (List.getElem_mem hjN));have hp0:=HPO.out _ (List.getElem_mem hjN);have HSX:Hid (xs.take (j+1)=xs.take j++ [bs[j].2]):=za (by rw [HXS.out,List.take_succ_eq_append_getElem (by rw [List.length_map];exact hjN),List.getElem_map]);have HSP:Hid (ps.take (j+1)=ps.take j++ [one x]):=za (by
    rw [HPS.out,List.take_succ_eq_append_getElem (by rw [List.length_map];exact hjN),List.getElem_map];unfold XJ;rw [hx])
   have HL1:Hid ((xs.take j).length+1≤11∧(ps.take j).length+1≤11):=za (by have:=HL.out;rw [HXS.out,HPS.out];simp;omega);have HPT:=za (HS.out.heard _ _ _ hx);obtain ⟨W1,hW⟩: ∃W,W=wr.alloc (.cells #[.int .u8 bs[j].1, .int .i64 bs[j].2] 133):=⟨_,rfl⟩;have HG0:Hid (wr.grownBy W1.drew none):=za (by rw [hW];exact (gAl wr _ none).trans (zb _ 1));have HBP:Hid (Bk W1.drew wr.heap.size 133 #[.int .u8 bs[j].1, .int .i64 bs[j].2]):=za (by rw [hW];exact (Bk.new wr _ _).grown (zb _ 1) (by simp));have HGD:=za (hg.trans HG0.out);have HSD:=za (hsd.kept HG0.out);have HOW:Hid ((∀g,u7.ownBlock=some g→w.heap.size≤g∧g< wr.heap.size)∧ ∀g,u8.ownBlock=some g→w.heap.size≤g∧g< wr.heap.size):=za ⟨fun g e=>hsd.fst.lt g e,fun g e=>hsd.snd.lt g e⟩;have HOV:Hid ((∀g,u7.ownBlock=some g→g< W1.drew.heap.size)∧ ∀g,u8.ownBlock=some g→g< W1.drew.heap.size):=za ⟨fun g e=>by have:=(hsd.fst.lt g e).2;have:=HG0.out.size;omega,fun g e=>by have:=(hsd.snd.lt g e).2;have:=HG0.out.size;omega⟩;obtain ⟨v,hlA,hpt⟩:=zO.lookA HA.out.heard bs[j].1 bs[j].2 hu8 hui;rw [hx] at hlA hpt;obtain ⟨b,rfl,hpb⟩:=hpt;have HPB:=za hpb;have HLA:Hid (∀W,w.grownBy W none→_):=za (fun W hW=>(hlA W hW).2);have eU:IntKind.u64.wrap bs[j].2=bs[j].2:=IntWalk.u64_in _ (by have:=hui.2;omega);have HUI:Hid (U64 bs[j].2):=za ⟨hp0,by have:=hui.2;omega⟩;unfold plV at HLA;clear hlA hpb hsd hg HX hc10 hc20 e2 hx hp0 hr;generalize bs[j]=h at *;have HC0:Hid (Zq ze (zh zo) w.heap.size 22 72 (fun g=>w.heap.size≤g) W1.drew u7 u8 (xs.take j) (ps.take j) h.2 (one x) [] W1.drew):=za (Zq.start HSD.out)
   have HLD:Hid (∀vs W,Zq ze (zh zo) w.heap.size 22 72 (fun g=>w.heap.size≤g) W1.drew u7 u8 (xs.take j) (ps.take j) h.2 (one x) vs W→(∀o,W.cell? ⟨gA,o,none⟩=(zu E (.slice Ac E.coms.length cc) vd vo gM st.done)[o]?)∧(∀o,W.cell? ⟨wr.heap.size,o,none⟩=(#[.int .u8 h.1, .int .i64 h.2]:Array Value)[o]?)∧w.grownBy W none∧W1.drew.heap.size≤W.heap.size∧w.heap.size≤W.heap.size):=za (fun vs W hC=>by
    have hg:=hC.gr;have hw:=hg.base HGD.out (fun g e=>(HOW.out.1 g e).1) (fun g e=>(HOW.out.2 g e).1);refine ⟨(HB.out.grown hw (by simp)).rule,fun o=> ?_,hw,hg.size,hw.size⟩;have hbk:Bk W wr.heap.size 133 #[.int .u8 h.1, .int .i64 h.2]:=by
     have h1:=HBP.out;unfold Bk at h1 ⊢;rw [hg.block _ HBP.out.lt (fun e=>by have:=(HOW.out.1 _ e.symm).2;omega) (fun e=>by have:=(HOW.out.2 _ e.symm).2;omega)];exact h1
    exact hbk.rule o)
   go_wp2_with fail;rw [←hW];clear hW;refine FR.wp_region_late (Px ze (zh zo) w.heap.size 22 72 (fun g=>w.heap.size≤g) W1.drew u7 u8 (xs.take j) (ps.take j) h.2 (one x)) [5,16] 19 (by kernel_rfl) (by kernel_rfl) (by kernel_rfl) HC0.out ?_;refine FR.mS (u7) [] (fun vs w' hC=>FR.kD fun K hK=> ?_) ?_
   ·go_simp;exact hK _ _ rfl ⟨rfl,gRf⟩
   refine FR.mS (.pointer (some ⟨wr.heap.size,1,none⟩)) [] (fun vs w' hC=>FR.kD fun K hK=> ?_) ?_
   ·go_simp;exact hK _ _ rfl ⟨rfl,gRf⟩
   refine FR.mS (.int .i64 h.2) [(1,25)] (fun vs w' hC=>FR.pQ (FR.kD fun K hK=> ?_)) ?_
   ·have hC:Zq _ _ _ _ _ _ _ _ _ _ _ _ _ vs w':=hC;obtain ⟨l1,l2,l3,l4,l5⟩:=HLD.out vs w' hC;go_simp;exact hK _ _ rfl ⟨rfl,gRf⟩
   refine FR.mS (.int .u64 h.2) [(2,26)] (fun vs w' hC=>FR.pQ (FR.kD fun K hK=> ?_)) ?_
   ·go_simp;exact hK _ _ rfl ⟨rfl,gRf⟩
   refine FR.mV (NM W1.drew.heap.size 22 #[.int .u64 h.2] HOV.out.1 HOV.out.2) [(3,27)] (fun vs w' hC=>FR.pQ (FR.kD fun K hK=> ?_)) ?_
   ·have hC:Zq _ _ _ _ _ _ _ _ _ _ _ _ _ vs w':=hC;obtain ⟨l1,l2,l3,l4,l5⟩:=HLD.out vs w' hC;go_simp;exact hK _ _ rfl ⟨⟨_,rfl,l4,Bk.new w' _ _⟩,gAl w' _ none⟩
   refine FR.LateR.turn 0 [(0,24),(4,28)] (by kernel_rfl) [] rfl (by kernel_rfl) (fun vs w' hn hr hC=> ?_) ?_
   ·intro x24 h24;intro x28 h28;have h28: ∃b,x28= .slice (some ⟨b,0,none⟩) 1 1∧W1.drew.heap.size≤b∧Bk w' b 22 #[.int .u64 h.2]:=h28;obtain ⟨b28,e28,k28,l28⟩:=h28;subst e28;have e24:x24=u7:=h24;clear h24;subst e24;refine FR.askl_do rfl fun K hK=> ?_
    have hC:Zq _ _ _ _ _ _ _ _ _ _ _ _ _ vs w':=hC;obtain ⟨l1,l2,l3,l4,l5⟩:=HLD.out vs w' hC;refine Zq.app0 hC hn xd ⟨rfl,HUI.out⟩ (Bk.one l28) (by have:=HL1.out;omega) l5 (fun g hg=>Nat.le_trans l5 hg) (.tmp 24) (.tmp 28) rfl rfl rfl fun v' w2 hr=>hK _ _ rfl hr
   refine FR.mS (u8) [] (fun vs w' hC=>FR.kD fun K hK=> ?_) ?_
   ·go_simp;exact hK _ _ rfl ⟨rfl,gRf⟩
   refine FR.mS (.func (.func fc) #[] #[]) [] (fun vs w' hC=>FR.kD fun K hK=> ?_) ?_
   ·go_simp;exact hK _ _ rfl ⟨rfl,gRf⟩
   refine FR.mS (.pointer (some ⟨gA,0,none⟩)) [] (fun vs w' hC=>FR.kD fun K hK=> ?_) ?_
   ·go_simp;exact hK _ _ rfl ⟨rfl,gRf⟩
   refine FR.mS (.pointer (some ⟨gA,0,none⟩)) [(8,32)] (fun vs w' hC=>FR.pQ (FR.kD fun K hK=> ?_)) ?_
   ·go_simp;exact hK _ _ rfl ⟨rfl,gRf⟩
   refine FR.mS (.pointer (some ⟨gA,17,none⟩)) [(9,33)] (fun vs w' hC=>FR.pQ (FR.kD fun K hK=> ?_)) ?_
   ·go_simp;exact hK _ _ rfl ⟨rfl,gRf⟩
   refine FR.mS (.map (some gM)) [(10,34)] (fun vs w' hC=>FR.pQ (FR.kD fun K hK=> ?_)) ?_
   ·have hC:Zq _ _ _ _ _ _ _ _ _ _ _ _ _ vs w':=hC;obtain ⟨l1,l2,l3,l4,l5⟩:=HLD.out vs w' hC;go_simp;exact hK _ _ rfl ⟨rfl,gRf⟩
   refine FR.mS (.agg #[.int .u8 h.1, .int .i64 h.2]) [] (fun vs w' hC=>FR.kD fun K hK=> ?_) ?_
   ·have hC:Zq _ _ _ _ _ _ _ _ _ _ _ _ _ vs w':=hC;obtain ⟨l1,l2,l3,l4,l5⟩:=HLD.out vs w' hC;go_simp;exact hK _ _ rfl ⟨rfl,gRf⟩
   refine FR.mS (.pointer (some ⟨b,0,none⟩)) [(11,35),(12,36)] (fun vs w' hC=>FR.pQ (FR.pQ (FR.kD fun K hK=> ?_))) ?_
   ·have hC:Zq _ _ _ _ _ _ _ _ _ _ _ _ _ vs w':=hC;obtain ⟨l1,l2,l3,l4,l5⟩:=HLD.out vs w' hC;have hlk:=HLA.out w' l3;go_simp;exact hK _ _ rfl ⟨rfl,gRf⟩
   refine FR.mV (Is zo (one x) W1.drew.heap.size HOV.out.1 HOV.out.2) [(7,31),(13,37)] (fun vs w' hC=>FR.pQ (FR.pQ (FR.kD fun K hK=> ?_))) ?_
   ·have hC:Zq _ _ _ _ _ _ _ _ _ _ _ _ _ vs w':=hC;obtain ⟨l1,l2,l3,l4,l5⟩:=HLD.out vs w' hC;rcases HFC.out with e0|e0<;>rw [e0] at HONE ⊢ <;>go_simp
    all_goals
     refine (HONE.out b x X w' (HPB.out.keep l3 (by simp)) HPT.out).mono ?_;rintro e w3 ⟨v3,rfl,hs3,hg3⟩;exact hK _ _ rfl ⟨hs3.more fun g _ hg=>⟨Nat.le_trans l4 hg,fun q z hz hq e=>by have:=hC.lt q z hz hq g e.symm;omega⟩,hg3⟩
   refine FR.mV (Da zo (one x) 72 W1.drew.heap.size HOV.out.1 HOV.out.2) [(14,38)] (fun vs w' hC x38 h38=>FR.kD fun K hK=> ?_) ?_
   ·have h38:Sl zo (fun g=>W1.drew.heap.size≤g∧ ∀q z,(q,z)∈vs→q< 2→some g≠z.ownBlock) w' x38 (one x):=h38;obtain ⟨A38,c38,e38,k38,l38⟩:=h38.form;subst e38;have hC:Zq _ _ _ _ _ _ _ _ _ _ _ _ _ vs w':=hC;obtain ⟨l1,l2,l3,l4,l5⟩:=HLD.out vs w' hC;go_simp;exact hK _ _ rfl ⟨⟨_,h38.kept (gAl w' _ none),_,rfl,l4,Bk.new w' _ _⟩,gAl w' _ none⟩
   refine FR.LateR.turn 1 [(6,30),(15,39)] (by kernel_rfl) [] rfl (by kernel_rfl) (fun vs w' hn hr hC=> ?_) ?_
   ·intro x30 h30;intro x39 h39;have h39: ∃vv,Sl zo (fun g=>W1.drew.heap.size≤g∧ ∀q z,(q,z)∈vs→q< 2→some g≠z.ownBlock) w' vv (one x)∧ ∃b,x39= .slice (some ⟨b,0,none⟩) 1 1∧W1.drew.heap.size≤b∧Bk w' b 72 #[vv]:=h39;obtain ⟨vv,s39,b39,e39,k39,l39⟩:=h39;subst e39;have e30:x30=u8:=h30;clear h30;subst e30;refine FR.askl_do rfl fun K hK=> ?_
    have hC:Zq _ _ _ _ _ _ _ _ _ _ _ _ _ vs w':=hC;obtain ⟨l1,l2,l3,l4,l5⟩:=HLD.out vs w' hC;refine Zq.app1 hC hn Yn ⟨_,rfl,s39.more fun g _ hg=>⟨⟨Nat.le_trans HGD.out.size hg.1,fun z hz=>hg.2 0 z hz (by decide),fun e=>by have:=HOV.out.1 g e.symm;omega⟩,fun e=>by have:=HOV.out.2 g e.symm;omega⟩⟩ (Bk.one l39) (by have:=HL1.out;omega) l5 (fun g hg=>Nat.le_trans l5 hg) (.tmp 30) (.tmp 39) rfl rfl rfl fun v' w2 hr=>hK _ _ rfl hr
   refine FR.mV (FR.Qv.slot 0) [(5,29)] (fun vs w' hC x29 h29=>FR.kD fun K hK=> ?_) ?_
   ·have h29:(0,x29)∈vs:=h29;go_simp;exact hK _ _ rfl ⟨h29,gRf⟩
   refine FR.mV (FR.Qv.slot 1) [(16,40)] (fun vs w' hC x40 h40=>FR.kD fun K hK=> ?_) ?_
   ·have h40:(1,x40)∈vs:=h40;go_simp;exact hK _ _ rfl ⟨h40,gRf⟩
   intro vs w3 hvl hC3;have hC3:Zq _ _ _ _ _ _ _ _ _ _ _ _ _ vs w3:=hC3
   iterate 17 (refine pD ?_;intro _)
   intro y17 k17 y18 k18;have k17:(0,y17)∈vs:=k17;have k18:(1,y18)∈vs:=k18;have hf:=hC3.fin hvl.2 k17 k18;have HF:Hid (xU ze (zh zo) w.heap.size 22 72 (fun g=>w.heap.size≤g) w3 y17 y18 (xs.take (j+1)) (ps.take (j+1))∧w.grownBy w3 none):=za ⟨by rw [HSX.out,HSP.out];exact hf.1,(HLD.out vs w3 hC3).2.2.1⟩;clear k17 k18 hvl hC3 hf HLD HC0;simp only [Act.put,sAa,sAb,sAc];show wpList _ _ _ _ _ _;refine wpList_nil ?_;go_wp2_with fail;go_roundg (gk - 1)
   case measure=>omega
   case rel=>exact ⟨j+1,by omega,by go_num,HF⟩
end
end Go.Proofs.YtkdfjkdphdfclaaGreatDoor
