/- Proves for the statement AvssNamesCardSaid, under no other condition than the statement's own, that the card avssNames holds of the program. Part 6. -/
import Derived.Test.YtkdfjkdphdfclaaGreatDoorZ5
import Derived.Lib.TrailingZeros
import Derived.WalkMore
import Derived.ProofKit
import Derived.OpenShut
import Derived.ChangeOld
import Derived.Deep.Slices
set_option maxRecDepth 100000
set_option maxHeartbeats 16000000
set_option linter.unusedVariables false
set_option linter.unusedSimpArgs false
namespace Go.Proofs.YtkdfjkdphdfclaaGreatDoor
section
open Go
structure Lt where
 C:List Value→World→Prop
 R:Nat→World→World→Prop
 g: ∀{vs w w'},C vs w→w.grownBy w' none→C vs w'
structure Qv (L:Lt) where
 p:List Value→Value→World→Prop
 fr:Nat
 st: ∀{vs v w w'},p vs v w→w.grownBy w' none→p vs v w'
 sr: ∀{vs u v w w'},fr≤vs.length→L.C vs w→L.R vs.length w w'→p vs v w→p (vs++ [u]) v w'
def Qv.any{L:Lt}:Qv L:=⟨fun _ _ _=>True,0,fun _ _=>trivial,fun _ _ _ _=>trivial⟩
def Qv.eq{L:Lt}(u:Value):Qv L:=⟨fun _ v _=>v=u,0,fun h _=>h,fun _ _ _ h=>h⟩
def Qv.slot{L:Lt}(q:Nat):Qv L:=⟨fun vs v _=>vs[q]? =some v,q+1,fun h _=>h,fun _ _ _ h=>by
 have:=(List.getElem?_eq_some_iff.1 h).1
 rw [List.getElem?_append_left this];exact h⟩
section
variable {L:Lt} {late:List Nat} {P:Program} {ops:Array Oper} {Q:Exit→Act→World→Prop} {n:Nat} {a0:Act} {w0:World}
def yt(T:Value→World→Prop)(dst:Option Tmp)(ds:List Deferred):Exit→Act→World→Prop:=fun e a' w'=>e= .normal∧a'.defers=ds∧T (match dst with|some d=>a'.eval (.tmp d)|none=>undef) w'
def XY(P:Program)(ops:Array Oper)(vs:List Value)(Vs:List (Qv L))(Qt:Exit→Act→World→Prop)(o:Oper)(w:World):List (Nat×Tmp)→Act→Prop
 | [],a=>wpList P ops Qt [o] a w
 |(j,d)::js,a=> ∀x,(Vs.getD j Qv.any).p vs x w→XY P ops vs Vs Qt o w js (a.put (some d) x)
def Fr(L:Lt)(late:List Nat)(P:Program)(ops:Array Oper)(Vs:List (Qv L))(ds:List Deferred)(i:Nat)(V:Qv L)(o:Oper)(js:List (Nat×Tmp))(a0:Act):Prop:=
 (late.contains i=false∧V.fr=0∧ ∀vs w,L.C vs w→XY P ops vs Vs (yt (fun v w'=>V.p vs v w'∧w.grownBy w' none) o.dst ds) o w js a0)∨
 (∃q,late[q]? =some i∧V=Qv.slot q∧ ∀vs w,vs.length=q→L.C vs w→XY P ops vs Vs (yt (fun v w'=>L.R q w w'∧L.C (vs++ [v]) w') o.dst ds) o w js a0)
def LateR(L:Lt)(late:List Nat)(P:Program)(ops:Array Oper)(n:Nat)(a0:Act)(F:List (Qv L)→Prop):Nat→List (Qv L)→List Oper→Prop
 |0,Rs,_=>F Rs.reverse
 |_+1,_, []=>False
 |k+1,Rs,o::os=> ∃(V:Qv L) (js:List (Nat×Tmp)),(yh ops Rs.length js && zZ ops n Rs.length js)=true∧Fr L late P ops Rs.reverse a0.defers Rs.length V o js a0∧LateR L late P ops n a0 F k (V::Rs) os
theorem LateR.mono{F:List (Qv L)→Prop}{k:Nat}{Rs:List (Qv L)}{o:Oper}{os:List Oper}(V:Qv L)(js:List (Nat×Tmp))(hc:(yh ops Rs.length js && zZ ops n Rs.length js)=true)(hl:late.contains Rs.length=false)(hf:V.fr=0)(hA: ∀vs w,L.C vs w→XY P ops vs Rs.reverse (yt (fun v w'=>V.p vs v w'∧w.grownBy w' none) o.dst a0.defers) o w js a0)(h:LateR L late P ops n a0 F k (V::Rs) os):LateR L late P ops n a0 F (k+1) Rs (o::os):=⟨V,js,hc, .inl ⟨hl,hf,hA⟩,h⟩
theorem LateR.turn{F:List (Qv L)→Prop}{k:Nat}{Rs:List (Qv L)}{o:Oper}{os:List Oper}(q:Nat)(js:List (Nat×Tmp))(hc:(yh ops Rs.length js && zZ ops n Rs.length js)=true)(hl:late[q]? =some Rs.length)(hA: ∀vs w,vs.length=q→L.C vs w→XY P ops vs Rs.reverse (yt (fun v w'=>L.R q w w'∧L.C (vs++ [v]) w') o.dst a0.defers) o w js a0)(h:LateR L late P ops n a0 F k (Qv.slot q::Rs) os):LateR L late P ops n a0 F (k+1) Rs (o::os):=⟨Qv.slot q,js,hc, .inr ⟨q,hl,rfl,hA⟩,h⟩
theorem LateR.out{F:List (Qv L)→Prop}: ∀{k:Nat} {Rs:List (Qv L)} {os:List Oper},LateR L late P ops n a0 F k Rs os→k≤os.length∧ ∃Ws:List (Qv L),Ws.length=k∧F (Rs.reverse++Ws)∧ ∀m o,m< k→os[m]? =some o→ ∃V js,Ws[m]? =some V∧(yh ops (Rs.length+m) js && zZ ops n (Rs.length+m) js)=true∧Fr L late P ops ((Rs.reverse++Ws).take (Rs.length+m)) a0.defers (Rs.length+m) V o js a0
 |0,Rs,os,h=>⟨Nat.zero_le _, [],rfl,by rw [List.append_nil];exact h,fun m o hm=>by omega⟩
 |_+1,_, [],h=>h.elim
 |k+1,Rs,o::os,⟨V,js,hb,hA,hM⟩=>by
  obtain ⟨hkl,Ws,hl,hF,hk⟩:=LateR.out hM;refine ⟨by simpa using hkl,V::Ws,by simp [hl],by simpa using hF,fun m o' hm ho=> ?_⟩;cases m with
  |zero=>
   obtain rfl:o=o':=by simpa using ho
   refine ⟨V,js,rfl,hb, ?_⟩
   have:(Rs.reverse++V::Ws).take (Rs.length+0)=Rs.reverse:=by
    rw [Nat.add_zero, ←List.length_reverse];exact List.take_left
   rw [this];exact hA
  |succ m=>
   obtain ⟨V',js',h1,h2,h3⟩:=hk m o' (by omega) (by simpa using ho);refine ⟨V',js',by simpa using h1, ?_, ?_⟩
   ·simpa [Nat.add_assoc,Nat.add_comm 1 m] using h2
   ·simpa [Nat.add_assoc,Nat.add_comm 1 m] using h3
def YI(G:Act→World→Prop)(vs:List Value)(w:World):List (Qv L)→List Oper→Act→Prop
 |V::Vs,o::os,a=> ∀x,V.p vs x w→YI G vs w Vs os (a.put o.dst x)
 |_,_,a=>G a w
theorem YI.all{G:Act→World→Prop}{vs:List Value}{w:World}{b:Act}: ∀{Vs:List (Qv L)} {os:List Oper} {a:Act},Vs.length=os.length→(∀(k:Nat) (V:Qv L) (o:Oper),Vs[k]? =some V→os[k]? =some o→V.p vs (match o.dst with|some d=>b.eval (.tmp d)|none=>undef) w)→YI G vs w Vs os a→G (QI b (os.map (·.dst)) a) w
 | [], [],_,_,_,h=>h
 |V::Vs,o::os,a,hl,hx,h=>YI.all (Vs:=Vs) (os:=os) (by simpa using hl) (fun k V o hv ho=>hx (k+1) V o (by simpa using hv) (by simpa using ho)) (h _ (hx 0 V o rfl rfl))
 | [],_::_,_,hl,_,_=>by simp at hl
 |_::_, [],_,hl,_,_=>by simp at hl
theorem XY.all{vs:List Value}{Vs:List (Qv L)}{Qt:Exit→Act→World→Prop}{o:Oper}{w:World}{b:Act}: ∀{js:List (Nat×Tmp)} {a:Act},(∀x:Nat×Tmp,x∈js→(Vs.getD x.1 Qv.any).p vs (b.eval (.tmp x.2)) w)→XY P ops vs Vs Qt o w js a→wpList P ops Qt [o] (QI b (js.map fun x=>some x.2) a) w
 | [],_,_,h=>h
 |(j,d)::js,a,hx,h=>XY.all (js:=js) (fun x hm=>hx x (List.mem_cons_of_mem _ hm)) (h _ (hx (j,d) (by simp)))
def Cls(L:Lt)(late:List Nat)(vs:List Value)(D:Array Bool)(w:World):Prop:=vs.length≤late.length∧L.C vs w∧ ∀q i,late[q]? =some i→(D.getD i false=true↔q< vs.length)
structure Gv (L:Lt) (late:List Nat) (ops:Array Oper) (n:Nat) (a0:Act) (Vs:List (Qv L)) (vs:List Value) (D:Array Bool) (a:Act) (w:World):Prop where
 head:HeadInv .any ops n D
 cls:Cls L late vs D w
 tsize:a.tmps.size=a0.tmps.size
 defers:a.defers=a0.defers
 rest: ∀t,(∀j,j< n→D.getD j false=true→zU ops j≠some t)→a.tmps[t]? =a0.tmps[t]?
 known: ∀j V,D.getD j false=true→Vs[j]? =some V→V.p vs (Tc (zU ops j) a) w
theorem yY{T:Value→World→Prop}{dst:Option Tmp}{ds:List Deferred}: ¬LetsOut (yt T dst ds):=by
 rintro ⟨a,w',e,_⟩;cases e
def Fg(ops:Array Oper)(late:List Nat):Bool:=(List.range (late.length - 1)).all fun q=>Region.waitsFor .any ops (late.getD (q+1) 0) (late.getD q 0)
def TA(ops:Array Oper)(n:Nat)(late:List Nat):Bool:=late.all (fun i=>decide (i< n)) && decide late.Nodup && Fg ops late
theorem Td{T:Value→World→Prop}{o:Oper}{a b:Act}{w:World}(hs: ∀cs b,o.op≠ .select cs b)(hd: ∀d,o.dst=some d→d< a.tmps.size)(hsz:b.tmps.size=a.tmps.size)(hlook: ∀t∈o.looksAt ops,b.tmps[t]? =a.tmps[t]?){i:Nat}(hi:ops[i]? =some o)
  (hdf:b.defers=a0.defers) (h:wpList P ops (yt T o.dst a0.defers) [o] b w):wpOp P ops Q i (fun a' w'=> ∃v,a'=a.put o.dst v∧T (match o.dst with|some _=>v|none=>undef) w') a w:=by
 have hex:execOp b.eval o=execOp a.eval o:=execOp_congr o hs fun x hx=>by
  cases x with
  |tmp t=>exact Yd _ _ _ (hlook t (List.mem_append_left _ (List.mem_filterMap.2 ⟨.tmp t,by simpa using hx,rfl⟩)))
  |_=>rfl
 have hwn:Region.wanted o (yielded ops b.tmps)=Region.wanted o (yielded ops a.tmps):=by
  unfold Region.wanted;cases hg:o.guard with
  |none=>rfl
  |some gw=>
   obtain ⟨g,want⟩:=gw;have hy:yielded ops b.tmps g=yielded ops a.tmps g:=by
    unfold yielded;cases ht:(ops[g]?).bind (·.dst) with
    |none=>rfl
    |some t=>simp only [Option.bind_some,hlook t (by simp [Oper.looksAt,hg,ht])]
   simp only [hy]
 have fin: ∀v w',yt T o.dst a0.defers .normal (b.put o.dst v) w'→ ∃v',a.put o.dst v=a.put o.dst v'∧T (match o.dst with|some _=>v'|none=>undef) w':=by
  rintro v w' ⟨_,_,h1⟩;refine ⟨v,rfl, ?_⟩;cases hdd:o.dst with
  |none=>rw [hdd] at h1;exact h1
  |some d=>
   rw [hdd] at h1;have hlt:=hd d hdd
   have:(b.put (some d) v).eval (.tmp d)=v:=by simp [Act.put,Act.eval,Array.getD_eq_getD_getElem?,hsz,hlt]
   simp only [this] at h1;exact h1
 unfold wpOp;simp only [hi];simp only [wpList,hwn] at h;split
 ·rename_i hw;rw [if_pos hw] at h;rcases h with h|h
  ·left;unfold Oper.wp at h ⊢;rw [hex] at h;generalize (execOp a.eval o).run P w=r at *;cases r with
   |ok x w'=>
    cases x with
    |value v=>exact fin v w' h
    |skip=>exact fin undef w' h
    |enter f args=>
     refine Calls.mono h fun e w'' he=> ?_
     cases e with
     |returned u=>exact fin u w'' he
     |panicked c=>exact absurd he.1 (by simp)
     |outgrown=>exact absurd he yY
    |row row args=>exact Rows.mono h fun u w'' he=>fin u w'' he
    |defer d=>
     obtain ⟨_,h1,_⟩:=h;have h1:(Act.put {b with defers:=d::b.defers} o.dst undef).defers=a0.defers:=h1;rw [yC, ←hdf] at h1;exact absurd (congrArg List.length h1) (by simp)
    |_=>exact h.elim
   |halt x w'=>
    cases x with
    |panic v=>exact absurd h.1 (by simp)
    |_=>exact h.elim
  ·exact absurd h.2 yY
 ·rename_i hw;rw [if_neg hw] at h;exact fin undef w h
theorem VL{L:Lt}{late:List Nat}{vs vs2:List Value}{Vs:List (Qv L)}{D:Array Bool}{a a':Act}{w w':World}{i:Nat}{o:Oper}{V:Qv L}{v:Value}(inv:Gv L late ops n a0 Vs vs D a w)(hd:LK ops n a0.tmps.size=true)(hi:i∈Region.ready .any ops D)(hin:i< n)(ho:ops[i]? =some o)(hV:Vs[i]? =some V)(hnl:Vs.length≤n)
  (ha:a'=a.put o.dst v) (hv:V.p vs2 (match o.dst with|some _=>v|none=>undef) w') (hg: ∀(W:Qv L) (j:Nat),D.getD j false=true→Vs[j]? =some W→ ∀{u:Value},W.p vs u w→W.p vs2 u w') (hcl:Cls L late vs2 (D.setIfInBounds i true) w'):Gv L late ops n a0 Vs vs2 (D.setIfInBounds i true) a' w':=by
 subst ha;have hdi:zU ops i=o.dst:=by simp [zU,ho]
 have hun:D.getD i true=false:=(mem_ready.1 hi).1;have hlt:i< D.size:=by
  rcases Nat.lt_or_ge i D.size with h'|h'
  ·exact h'
  ·simp [Array.getElem?_eq_none h'] at hun
 refine ⟨inv.head.set hi hin,hcl,(Yj _ _ _).trans inv.tsize,(yC _ _ _).trans inv.defers,fun t ht=> ?_,fun j W hj hW=> ?_⟩
 ·have h1:o.dst≠some t:=fun e=>ht i hin (by simp [hlt]) (hdi.trans e)
  refine Eq.trans ?_ (inv.rest t fun j hj hD=>ht j hj (getD_set_true hD));cases hdd:o.dst with
  |none=>rfl
  |some d=>exact YU _ _ _ _ (fun e=>h1 (by rw [hdd,e]))
 ·by_cases e:i=j
  ·subst e;obtain rfl:V=W:=Option.some.inj (hV.symm.trans hW);rw [hdi];cases hdd:o.dst with
   |none=>rw [hdd] at hv;exact hv
   |some d=>
    rw [hdd] at hv;have hds:=zg hd hin;rw [hdi,hdd] at hds;simp only [Bool.and_eq_true,decide_eq_true_eq] at hds
    have:(a.put (some d) v).eval (.tmp d)=v:=by simp [Act.put,Act.eval,Array.getD_eq_getD_getElem?,inv.tsize,hds.1]
    show V.p vs2 ((a.put (some d) v).eval (.tmp d)) w';rw [this];exact hv
  ·have hjn:j< n:=by have:=(List.getElem?_eq_some_iff.1 hW).1;omega
   rw [getD_set_ne false e] at hj;have h1:=hg W j hj hW (inv.known j W hj hW);cases hdj:zU ops j with
   |none=>rw [hdj] at h1;exact h1
   |some dj=>
    rw [hdj] at h1;have h1:W.p vs2 (a.eval (.tmp dj)) w':=h1;show W.p vs2 ((a.put o.dst v).eval (.tmp dj)) w';cases hdd:o.dst with
    |none=>exact h1
    |some d=>
     have hds:=zg hd hin;rw [hdi,hdd] at hds;simp only [Bool.and_eq_true,decide_eq_true_eq] at hds;have h2:=zg hds.2 hjn;simp only [Bool.or_eq_true,beq_iff_eq,bne_iff_ne,ne_eq] at h2;have h3:d≠dj:=fun e'=>(h2.resolve_left (fun e2=>e e2.symm)) (by rw [hdj,e'])
     rw [Yd _ a dj (YU a d dj v h3)];exact h1
theorem Xs{l:List Oper}(n:Nat)(hB:ZN l.toArray n a0.tmps.size=true)(hBl:TA l.toArray n late=true)(hC0:L.C [] w0)
  (h:LateR L late P l.toArray n a0 (fun Vs=> ∀vs w,vs.length=late.length→L.C vs w→YI (fun a w=>wpList P l.toArray Q (l.drop n) a w) vs w Vs (l.take n) a0) n [] l):wpAny P .any l.toArray Q l.toArray.size (Array.replicate l.toArray.size false) a0 w0:=by
 simp only [ZN,Bool.and_eq_true,decide_eq_true_eq] at hB;obtain ⟨⟨⟨⟨hsel,hn⟩,htail⟩,htopo⟩,hdist⟩:=hB;simp only [OG,Bool.and_eq_true] at htail;obtain ⟨hblk,hseq⟩:=htail;simp only [TA,Bool.and_eq_true,decide_eq_true_eq] at hBl;obtain ⟨⟨hlt0,hnd⟩,hch⟩:=hBl;have hlate: ∀i∈late,i< n:=fun i hi=>by simpa using List.all_eq_true.1 hlt0 i hi
 have hchain: ∀q,q+1< late.length→ ∀i,late[q+1]? =some i→ ∀i',late[q]? =some i'→Region.waitsFor .any l.toArray i i'=true:=fun q hq i h1 i' h2=>by
  have:=zg hch (show q< late.length - 1 by omega)
  rw [List.getD_eq_getElem?_getD,List.getD_eq_getElem?_getD,h1,h2] at this;exact this
 obtain ⟨_,Vs,hVl,hF,hO⟩:=LateR.out h;rw [List.reverse_nil,List.nil_append] at hF;simp only [List.reverse_nil,List.nil_append,List.length_nil,Nat.zero_add] at hO;have hnl:n≤l.length:=by simpa using hn
 have htl:(l.take n).length=n:=by simp;omega
 have hVn:Vs.length=n:=hVl;have hfr: ∀j W,Vs[j]? =some W→(late.contains j=false∧W.fr=0)∨ ∃q,late[q]? =some j∧W.fr≤q+1:=fun j W hW=>by
  have hj:j< n:=by have:=(List.getElem?_eq_some_iff.1 hW).1;omega
  obtain ⟨V,js,hV,_,hask⟩:=hO j l[j] hj (List.getElem?_eq_getElem (by omega));obtain rfl:V=W:=Option.some.inj (hV.symm.trans hW);rcases hask with ⟨h1,h2,_⟩|⟨q,h1,h2,_⟩
  ·exact .inl ⟨h1,h2⟩
  ·exact .inr ⟨q,h1,by rw [h2];exact Nat.le_refl _⟩
 have hdl:(l.drop n).length=l.toArray.size - n:=by simp
 have hnext: ∀i o,i< n→l.toArray[i]? =some o→(l.take n)[i]? =some o:=fun i o hi ho=>by
  rw [List.getElem?_take,if_pos hi];simpa using ho
 have key: ∀m vs D a w,Gv L late l.toArray n a0 Vs vs D a w→cnt D n=m→wpAny P .any l.toArray Q (m+(l.toArray.size - n)) D a w:=by
  intro m;induction m with
  |zero=>
   intro vs D a w inv hc;have hall:=xe hc;have hD:D=Array.replicate n true++Array.replicate (l.toArray.size - n) false:=by
    have hsz:=inv.head.size;refine Array.ext (by simp [hsz];omega) fun i h1 h2=> ?_
    rw [Array.getElem_append];by_cases hi:i< n
    ·have:=hall i hi
     simp [h1] at this;simp [hi,this]
    ·have:=inv.head.tail i (by omega) (by omega)
     simp [h1] at this;simp [hi,this]
   have hk: ∀(k:Nat) (V:Qv L) (o:Oper),Vs[k]? =some V→(l.take n)[k]? =some o→V.p vs (match o.dst with|some d=>a.eval (.tmp d)|none=>undef) w:=by
    intro k V o hv ho;have hkn:k< n:=by have:=(List.getElem?_eq_some_iff.1 hv).1;omega
    have h1:=inv.known k V (hall k hkn) hv;have h2:zU l.toArray k=o.dst:=by
     have:l[k]? =some o:=by rw [List.getElem?_take,if_pos hkn] at ho;exact ho
     simp [zU,this]
    rw [h2] at h1;have h3:(match o.dst with|some d=>a.eval (.tmp d)|none=>undef)=Tc o.dst a:=by cases o.dst<;>rfl
    rw [h3];exact h1
   have hcl:vs.length=late.length∧L.C vs w:=by
    obtain ⟨hk0,hk1,hk2⟩:=inv.cls;rcases Nat.lt_or_ge vs.length late.length with h|h
    case inr=>exact ⟨by omega,hk1⟩
    ·have h1:=(hk2 vs.length late[vs.length] (List.getElem?_eq_getElem h)).1 (hall _ (hlate _ (List.getElem_mem h)));omega
   have hfin:=YI.all (hVl.trans htl.symm) hk (hF vs w hcl.1 hcl.2);have hon:QI a ((l.take n).map (·.dst)) a0=a:=by
    refine Uj (fun t=>xZ a t _ _ inv.tsize.symm ?_) ((ye _ _ _).trans inv.defers.symm);by_cases ht:some t∈(l.take n).map (·.dst)
    ·exact .inl ht
    ·refine .inr (inv.rest t fun j hj _ e=>ht ?_).symm;have hjl:j< l.length:=by omega
     have:l[j].dst=some t:=by simpa [zU,hjl] using e
     exact List.mem_map.2 ⟨l[j],List.mem_iff_getElem?.2 ⟨j,by rw [List.getElem?_take,if_pos hj,List.getElem?_eq_getElem hjl]⟩,this⟩
   rw [hon] at hfin
   have:=wpAny_of_seq (md:= .any) (Q':=Q) (l.drop n) n D a w (fun j=>by simp [List.getElem?_drop]) (by rw [hdl,hD];exact hseq) hfin
   rw [hdl] at this
   rwa [Nat.zero_add]
  |succ m ih=>
   intro vs D a w inv hc;have hready: ∀i∈Region.ready .any l.toArray D,i< n:=by
    intro i hi;rcases Nat.lt_or_ge i n with h'|h'
    ·exact h'
    ·obtain ⟨hu,oi,hoi,hall⟩:=mem_ready.1 hi;have hlt:i< l.toArray.size:=(Array.getElem?_eq_some_iff.1 hoi).1;exfalso;obtain ⟨k,hk,hkd⟩: ∃k,k< n∧D.getD k false=false:=by
      refine Classical.byContradiction fun hno=> ?_
      have: ∀k,k≤n→cnt D k=0:=by
       intro k;induction k with
       |zero=>intro _;rfl
       |succ k ihk=>
        intro hk;have h1:D.getD k false=true:=by
         refine Classical.byContradiction fun hx=>hno ⟨k,by omega,by simpa using hx⟩
        simp only [cnt,h1,ihk (by omega)];rfl
      rw [this n (Nat.le_refl _)] at hc;omega
     have hb:=zg hblk hlt;simp only [Bool.or_eq_true,decide_eq_true_eq] at hb;have hb:=zg (hb.resolve_left (by omega)) hk;simp only [Bool.not_eq_true'] at hb;have hik:i≠k:=by omega
     have:av l.toArray k n i=true:=by
      have hav:=fun f j hj=>Qp (ops:=l.toArray) inv.head.closed inv.head.size hkd f j hj
      cases hn0:n with
      |zero=>simp [av,hik]
      |succ f=>
       simp only [av,hoi,Option.map_some,Option.getD_some,Bool.and_eq_true,bne_iff_ne];refine ⟨hik, ?_⟩;rw [Array.all_eq_true_iff_forall_mem];intro e he;by_cases hbd:Region.binds .any e=true
       ·simp [hbd,hav f e.on (hall e he hbd)]
       ·simp [hbd]
     rw [hb] at this;cases this
   have hne:Region.ready .any l.toArray D≠ []:=by
    have hex: ∃k,k< n∧D.getD k false=false∧ ∀j,j< k→D.getD j false=true:=by
     have: ∀k,k≤n→(∃q,q< k∧D.getD q false=false∧ ∀j,j< q→D.getD j false=true)∨(cnt D k=0):=by
      intro k;induction k with
      |zero=>intro _;exact .inr rfl
      |succ k ihk=>
       intro hk;rcases ihk (by omega) with ⟨q,h1,h2⟩|h0
       ·exact .inl ⟨q,by omega,h2⟩
       ·cases hq:D.getD k false with
        |true=>right;simp only [cnt,hq,h0];rfl
        |false=>exact .inl ⟨k,by omega,hq,xe h0⟩
     rcases this n (Nat.le_refl _) with ⟨q,h1,h2⟩|h0
     ·exact ⟨q,h1,h2⟩
     ·omega
    obtain ⟨k,hk,hkd,hbel⟩:=hex;have hkl:k< l.toArray.size:=by omega
    have ho:l.toArray[k]? =some l.toArray[k]:=Array.getElem?_eq_getElem hkl
    have:k∈Region.ready .any l.toArray D:=by
     refine mem_ready.2 ⟨getD_in (by rw [inv.head.size];exact hkl) hkd,_,ho,fun e he hb=>hbel _ ?_⟩;have ht:=zg htopo hk;simp only [ho,Option.map_some,Option.getD_some] at ht
     have:=Array.all_eq_true_iff_forall_mem.1 ht e he
     simpa [hb] using this
    intro e;rw [e] at this;cases this
   rw [show m+1+(l.toArray.size - n)=(m+(l.toArray.size - n))+1 by omega];refine ⟨fun e=>absurd e hne,fun i hi=> ?_⟩;have hin:=hready i hi;obtain ⟨hu,o,ho,hall⟩:=mem_ready.1 hi;obtain ⟨V,js,hV,hchk,hask⟩:=hO i o hin (by simpa using ho);simp only [Bool.and_eq_true] at hchk;obtain ⟨hpair,hlook⟩:=hchk;have hdst: ∀d,o.dst=some d→d< a.tmps.size:=by
    intro d hd
    have:=zg hdist hin
    have h2:zU l.toArray i=some d:=by simp only [zU,ho];exact hd
    rw [h2] at this;simp only [Bool.and_eq_true,decide_eq_true_eq] at this;rw [inv.tsize];exact this.1
   have hjs: ∀x:Nat×Tmp,x∈js→zU l.toArray x.1=some x.2∧D.getD x.1 false=true∧x.1< i:=by
    intro x hx
    have:=List.all_eq_true.1 hpair x hx
    simp only [Bool.and_eq_true,beq_iff_eq] at this;obtain ⟨oj,hoj,e,he,hb,hon⟩:=Region.waitsFor_spec this.2;obtain rfl:o=oj:=Option.some.inj (ho.symm.trans hoj);have ht:=zg htopo hin;simp only [ho,Option.map_some,Option.getD_some] at ht;have ht:=Array.all_eq_true_iff_forall_mem.1 ht e he;simp only [hb,Bool.not_true,Bool.false_or,decide_eq_true_eq] at ht;exact ⟨this.1,by rw [←hon];exact hall e he hb,by rw [←hon];exact ht⟩
   have hget: ∀x:Nat×Tmp,x∈js→((Vs.take i).getD x.1 Qv.any).p vs (a.eval (.tmp x.2)) w:=fun x hx=>by
    obtain ⟨h1,h2,h3⟩:=hjs x hx;have hxl:x.1< Vs.length:=by omega
    have h4:Vs[x.1]? =some Vs[x.1]:=List.getElem?_eq_getElem hxl;have h5:=inv.known x.1 _ h2 h4;rw [h1] at h5
    have:(Vs.take i).getD x.1 Qv.any=Vs[x.1]:=by
     rw [List.getD_eq_getElem?_getD,List.getElem?_take,if_pos h3,h4];rfl
    rw [this];exact h5
   obtain ⟨hk0,hk1,hk2⟩:=inv.cls;have hlk: ∀t∈o.looksAt l.toArray,(QI a (js.map fun x=>some x.2) a0).tmps[t]? =a.tmps[t]? :=fun t ht=>by
    refine xZ a t _ _ inv.tsize.symm ?_;have h1:(o.looksAt l.toArray).all (fun t=>js.any (·.2==t)||Nh l.toArray n i t)=true:=by
     simpa only [zZ,ho,Option.map_some,Option.getD_some] using hlook
    have h2:=List.all_eq_true.1 h1 t ht;simp only [Bool.or_eq_true] at h2;rcases h2 with h2|h2
    ·left;obtain ⟨x,hx,hxt⟩:=List.any_eq_true.1 h2;exact List.mem_map.2 ⟨x,hx,by rw [beq_iff_eq.1 hxt]⟩
    ·right;refine (inv.rest t fun j hj hD e=> ?_).symm;have h3:=zg h2 hj;simp only [Bool.or_eq_true,bne_iff_ne,ne_eq,beq_iff_eq] at h3;rcases h3 with (h3|h3)|h3
     ·exact h3 e
     ·obtain ⟨oj,hoj,e',he',hb',hon⟩:=Region.waitsFor_spec h3
      have:=inv.head.closed j oj hoj hD e' he' hb'
      rw [hon,getD_both hu] at this;cases this
     ·subst h3;rw [getD_both hu] at hD;cases hD
   obtain ⟨T,hA,hS⟩: ∃T:Value→World→Prop,XY P l.toArray vs (Vs.take i) (yt T o.dst a0.defers) o w js a0∧(∀v w',T v w'→ ∃vs2,V.p vs2 v w'∧(∀(W:Qv L) (j:Nat),D.getD j false=true→Vs[j]? =some W→ ∀{u:Value},W.p vs u w→W.p vs2 u w')∧Cls L late vs2 (D.setIfInBounds i true) w'):=by
    rcases hask with ⟨hnl',_,hA⟩|⟨q,hq,hVq,hA⟩
    ·have hne: ∀q i',late[q]? =some i'→i≠i':=fun q i' hq e=>by
      subst e
      have:=List.contains_iff_mem.2 (List.mem_of_getElem? hq)
      rw [hnl'] at this;cases this
     exact ⟨_,hA vs w hk1,fun v w' hg=>⟨vs,hg.1,fun W j _ _ _ hp=>W.st hp hg.2,hk0,L.g hk1 hg.2,fun q i' hq=>by rw [getD_set_ne false (hne q i' hq)];exact hk2 q i' hq⟩⟩
    ·have hDi:D.getD i false=false:=getD_both hu;have h1: ¬q< vs.length:=fun h=>by have:=(hk2 q i hq).2 h;rw [hDi] at this;cases this
     have h2:q≤vs.length:=by
      cases q with
      |zero=>omega
      |succ q=>
       have hql:q< late.length:=by have:=(List.getElem?_eq_some_iff.1 hq).1;omega
       have hw:=hchain q (by have:=(List.getElem?_eq_some_iff.1 hq).1;omega) i hq late[q] (List.getElem?_eq_getElem hql);obtain ⟨oj,hoj,e,he,hb,hon⟩:=Region.waitsFor_spec hw;obtain rfl:o=oj:=Option.some.inj (ho.symm.trans hoj);have h3:=hall e he hb;rw [hon] at h3
       have:=(hk2 q _ (List.getElem?_eq_getElem hql)).1 h3
       omega
     obtain rfl:q=vs.length:=by omega
     refine ⟨_,hA vs w rfl hk1,fun v w' hg=>⟨vs++ [v],(by rw [hVq];show (vs++ [v])[vs.length]? =some v;simp),fun W j hj hW _ hp=>W.sr ?_ hk1 hg.1 hp,by rw [List.length_append];exact (List.getElem?_eq_some_iff.1 hq).1,hg.2,fun q' i' hq'=> ?_⟩⟩
     ·rcases hfr j W hW with ⟨_,h4⟩|⟨q',hq',h4⟩
      ·rw [h4];exact Nat.zero_le _
      ·have:=(hk2 q' j hq').1 hj
       omega
     ·by_cases e:i=i'
      ·subst e;have hqq:q'=vs.length:=by
        have h5:=(List.getElem?_eq_some_iff.1 hq').1
        skip
        exact (List.getElem?_inj h5 hnd).1 (hq'.trans hq.symm)
       have hlt:i< D.size:=by
        rw [inv.head.size];exact (Array.getElem?_eq_some_iff.1 ho).1
       simp [hlt,hqq]
      ·rw [getD_set_ne false e,hk2 q' i' hq']
       have:q'≠vs.length:=fun e'=>e (by rw [e',hq] at hq';exact Option.some.inj hq')
       simp only [List.length_append,List.length_singleton];omega
   have hW:=XY.all (b:=a) hget hA;have hop:=Td (Q:=Q) (ops:=l.toArray) (a0:=a0) (a:=a) (Region.noSelect_spec hsel i o · · ho) hdst ((Zw _ _ _).trans inv.tsize.symm) hlk ho (ye _ _ _) hW;refine wpOp_mono (fun a' w' hk=> ?_) hop;obtain ⟨v,ha,hT⟩:=hk;obtain ⟨vs2,hv,hs,hcl⟩:=hS _ w' hT;exact ih vs2 _ a' w' (VL inv hdist hi hin ho hV (by omega) ha hv hs hcl) (by have:=(XF (D:=D) (i:=i) n).2 hin hu;omega)
 have h0:=key n [] (Array.replicate l.toArray.size false) a0 w0 ⟨⟨by simp,(fun j oj _ hD=>by rw [getD_replicate_false] at hD;cases hD),fun t _ ht=>by simp only [List.size_toArray] at ht ⊢;simp [ht]⟩,⟨Nat.zero_le _,hC0,fun q i hq=>by rw [getD_replicate_false];simp⟩,rfl,rfl,fun _ _=>rfl,(fun j V hD=>by rw [getD_replicate_false] at hD;cases hD)⟩ (ZB _ n)
 rwa [show n+(l.toArray.size - n)=l.toArray.size by omega] at h0
theorem askl_do{T:Value→World→Prop}{ds:List Deferred}{o:Oper}{a:Act}{w:World}(hw:Region.wanted o (yielded ops a.tmps)=true)
  (h: ∀K':Act→World→Prop,(∀a' w',a'.defers=ds→T (match o.dst with|some d=>a'.eval (.tmp d)|none=>undef) w'→K' a' w')→o.wp P a w K' (yt T o.dst ds)):wpList P ops (yt T o.dst ds) [o] a w:=by
 unfold wpList;rw [if_pos hw];exact .inl (h _ fun a' w' h1 h2=>⟨rfl,h1,h2⟩)
def PC(P:Program)(ops:Array Oper)(Q:Exit→Act→World→Prop)(vs:List Value)(w:World):List (Qv L)→List Oper→Act→Prop
 |V::Vs,o::os,a=> ∀x,V.p vs x w→PC P ops Q vs w Vs os (a.put o.dst x)
 |_,os,a=>wpList P ops Q os a w
theorem PC.cut{vs:List Value}{w:World}: ∀{Vs:List (Qv L)} {os:List Oper} {a:Act},Vs.length≤os.length→PC P ops Q vs w Vs os a→YI (fun a w=>wpList P ops Q (os.drop Vs.length) a w) vs w Vs (os.take Vs.length) a
 | [],os,a,_,h=>by
  have h:wpList P ops Q os a w:=by cases os<;>exact h
  exact h
 |V::Vs, [],a,hl,_=>by simp at hl
 |V::Vs,o::os,a,hl,h=>fun x hx=>PC.cut (Vs:=Vs) (os:=os) (by simpa using hl) (h x hx)
theorem LateR.weak{F G:List (Qv L)→Prop}: ∀{k:Nat} {Rs:List (Qv L)} {os:List Oper},LateR L late P ops n a0 F k Rs os→(∀Ws,Ws.length=Rs.length+k→F Ws→G Ws)→LateR L late P ops n a0 G k Rs os
 |0,Rs,_,h,hg=>hg _ (by simp) h
 |_+1,_, [],h,_=>h.elim
 |k+1,Rs,o::os,⟨V,js,hb,hA,hM⟩,hg=>⟨V,js,hb,hA,LateR.weak hM fun Ws hW=>hg Ws (by simp at hW ⊢;omega)⟩
theorem Yx{l:List Oper}(n:Nat)(hB:ZN l.toArray n a0.tmps.size=true)(hBl:TA l.toArray n late=true)(hC0:L.C [] w0)
  (h:LateR L late P l.toArray n a0 (fun Vs=> ∀vs w,vs.length=late.length→L.C vs w→PC P l.toArray Q vs w Vs l a0) n [] l):wpAny P .any l.toArray Q l.toArray.size (Array.replicate l.toArray.size false) a0 w0:=by
 refine Xs n hB hBl hC0 (LateR.weak h fun Ws hW hF vs w hvl hw=> ?_);have hn:=(LateR.out h).1;have hl:Ws.length=n:=by simpa using hW
 have:=PC.cut (by rw [hl];exact hn) (hF vs w hvl hw)
 rwa [hl] at this
theorem wp_region_late{l:List Oper}{id:Nat}(L:Lt)(late:List Nat)(n:Nat)(hm:P.follows .mixedOrders=true)(hB:ZN l.toArray n a0.tmps.size=true)(hBl:TA l.toArray n late=true)(hC0:L.C [] w0.drew)
  (h:LateR L late P l.toArray n a0 (fun Vs=> ∀vs w,vs.length=late.length→L.C vs w→PC P l.toArray Q vs w Vs l a0) n [] l):(Code.region id l.toArray true).wp P Q a0 w0:=
 wp_region_any hm (Yx n hB hBl hC0 h)
end
section
variable {L:Lt} {late:List Nat} {P:Program} {ops:Array Oper} {n:Nat} {a0:Act} {F:List (Qv L)→Prop} {k:Nat} {Rs:List (Qv L)} {o:Oper} {os:List Oper}
theorem lV(V:Qv L)(js:List (Nat×Tmp))(hA: ∀vs w,L.C vs w→XY P ops vs Rs.reverse (yt (fun v w'=>V.p vs v w'∧w.grownBy w' none) o.dst a0.defers) o w js a0)(h:LateR L late P ops n a0 F k (V::Rs) os)(hc:(yh ops Rs.length js && zZ ops n Rs.length js)=true:=by kernel_rfl)(hl:late.contains Rs.length=false:=by kernel_rfl)(hf:V.fr=0:=by rfl):LateR L late P ops n a0 F (k+1) Rs (o::os):=LateR.mono V js hc hl hf hA h
theorem lS(u:Value)(js:List (Nat×Tmp))(hA: ∀vs w,L.C vs w→XY P ops vs Rs.reverse (yt (fun v w'=>(Qv.eq (L:=L) u).p vs v w'∧w.grownBy w' none) o.dst a0.defers) o w js a0)(h:LateR L late P ops n a0 F k (Qv.eq u::Rs) os)(hc:(yh ops Rs.length js && zZ ops n Rs.length js)=true:=by kernel_rfl)(hl:late.contains Rs.length=false:=by kernel_rfl):LateR L late P ops n a0 F (k+1) Rs (o::os):=LateR.mono _ js hc hl rfl hA h
theorem lD{T:Value→World→Prop}{ds:List Deferred}{a:Act}{w:World}(h: ∀K:Act→World→Prop,(∀a' w',a'.defers=ds→T (match o.dst with|some d=>a'.eval (.tmp d)|none=>undef) w'→K a' w')→o.wp P a w K (yt T o.dst ds))(hw:Region.wanted o (yielded ops a.tmps)=true:=by rfl):wpList P ops (yt T o.dst ds) [o] a w:=askl_do hw h
theorem lE{T:Value→World→Prop}{ds:List Deferred}{a:Act}{w:World}(h: ∀K:Act→World→Prop,(∀a' w',a'.defers=ds→T (match o.dst with|some d=>a'.eval (.tmp d)|none=>undef) w'→K a' w')→o.wp P a w K (yt T o.dst ds))(hw:Region.wanted o (yielded ops a.tmps)=true:=by kernel_rfl):wpList P ops (yt T o.dst ds) [o] a w:=askl_do hw h
theorem lQ{u:Value}{vs:List Value}{ds:List Deferred}{a:Act}{w:World}(h: ∀K:Act→World→Prop,(∀a',a'.defers=ds→(match o.dst with|some d=>a'.eval (.tmp d)|none=>undef)=u→K a' w)→o.wp P a w K (yt (fun v w'=>(Qv.eq (L:=L) u).p vs v w'∧w.grownBy w' none) o.dst ds))(hw:Region.wanted o (yielded ops a.tmps)=true:=by rfl):wpList P ops (yt (fun v w'=>(Qv.eq (L:=L) u).p vs v w'∧w.grownBy w' none) o.dst ds) [o] a w:=askl_do hw fun K hK=>h K fun a' h1 h2=>hK a' w h1 ⟨h2,World.grownBy.refl w none⟩
theorem lR{u:Value}{vs:List Value}{ds:List Deferred}{a:Act}{w:World}(h: ∀K:Act→World→Prop,(∀a',a'.defers=ds→(match o.dst with|some d=>a'.eval (.tmp d)|none=>undef)=u→K a' w)→o.wp P a w K (yt (fun v w'=>(Qv.eq (L:=L) u).p vs v w'∧w.grownBy w' none) o.dst ds))(hw:Region.wanted o (yielded ops a.tmps)=true:=by kernel_rfl):wpList P ops (yt (fun v w'=>(Qv.eq (L:=L) u).p vs v w'∧w.grownBy w' none) o.dst ds) [o] a w:=askl_do hw fun K hK=>h K fun a' h1 h2=>hK a' w h1 ⟨h2,World.grownBy.refl w none⟩
end
end
section
open Go Go.RowKit Go.Shelf
attribute [local go_sem] Oper.semAt_some
structure xU {α β:Type} (E:Enc α) (F:Enc β) (base:Nat) (e f:TypeId) (Z:Nat→Prop) (w:World) (v u:Value) (xs:List α) (ys:List β):Prop where
 fst:Acc E base e (fun g=>Z g∧some g≠u.ownBlock) w v xs
 snd:Acc F base f (fun g=>Z g∧some g≠v.ownBlock) w u ys
section
variable {α β:Type} {E:Enc α} {F:Enc β} {base:Nat} {e f:TypeId} {Z:Nat→Prop} {w w':World} {v u v' u':Value} {xs xs':List α} {ys ys':List β}
theorem xU.kept(h:xU E F base e f Z w v u xs ys)(hg:w.grownBy w' none):xU E F base e f Z w' v u xs ys:=⟨h.fst.kept hg,h.snd.kept hg⟩
theorem xU.swap(h:xU E F base e f Z w v u xs ys):xU F E base f e Z w u v ys xs:=⟨h.snd,h.fst⟩
theorem xU.one(h:xU E F base e f Z w v u xs ys)(ha:Acc E base e (fun g=>Z g∧some g≠u.ownBlock) w' v' xs')(hg:w.grownBy w' v.ownBlock)(hm:xM w v v'):xU E F base e f Z w' v' u xs' ys:=by
 refine ⟨ha, ?_⟩;have h1:Acc F base f (fun g=>(Z g∧some g≠v'.ownBlock)∧some g≠v.ownBlock) w u ys:=h.snd.more fun g hg hx=>⟨⟨hx.1,fun e=>hm.ne hg (fun e'=>hx.2 e'.symm) e.symm⟩,hx.2⟩
 exact (h1.keep hg fun g hx=>hx.2).more fun g _ hx=>hx.1
theorem xU.two(h:xU E F base e f Z w v u xs ys)(ha:Acc F base f (fun g=>Z g∧some g≠v.ownBlock) w' u' ys')(hg:w.grownBy w' u.ownBlock)(hm:xM w u u'):xU E F base e f Z w' v u' xs ys':=(h.swap.one ha hg hm).swap
theorem xU.new1(h:xU E F base e f Z w v u xs ys)(hZ: ∀g,w.heap.size≤g→Z g): ∀g,w.heap.size≤g→Z g∧some g≠u.ownBlock:=fun g hg=>⟨hZ g hg,fun e=>by have:=(h.snd.lt g e.symm).2;omega⟩
theorem xU.new2(h:xU E F base e f Z w v u xs ys)(hZ: ∀g,w.heap.size≤g→Z g): ∀g,w.heap.size≤g→Z g∧some g≠v.ownBlock:=fun g hg=>⟨hZ g hg,fun e=>by have:=(h.fst.lt g e.symm).2;omega⟩
end
theorem xU.keep{α β:Type}{E:Enc α}{F:Enc β}{base:Nat}{e f:TypeId}{Z:Nat→Prop}{w w':World}{v u:Value}{xs:List α}{ys:List β}{row:Option Nat}(h:xU E F base e f Z w v u xs ys)(hg:w.grownBy w' row)(hZ: ∀g,Z g→some g≠row):xU E F base e f Z w' v u xs ys:=⟨h.fst.keep hg fun g hx=>hZ g hx.1,h.snd.keep hg fun g hx=>hZ g hx.1⟩
theorem Xj{w w':World}{g o:Nat}{u:Value}{row:Option Nat}(h:w.cell? ⟨g,o,none⟩=some u)(hg:w.grownBy w' row)(hne:some g≠row):w'.cell? ⟨g,o,none⟩=some u:=(World.cell?_of_block (w:=w) (hg.block g (block_lt_of_cell h) hne)).trans h
def De(n:Nat)(t:TypeId)(u v:Value)(w:World):Prop:= ∃b,v= .slice (some ⟨b,0,none⟩) 1 1∧n≤b∧Bk w b t #[u]
section
variable {base:Nat} {W wd w' w3:World} {vW vB u v3:Value} {g8 d:Nat} {bv:Int} {xsW:List (List Int)} {xsB:List Int} {yW:List Int}
end
theorem zi(w:World)(g o:Nat)(v:Value):w.grownBy (w.setCell ⟨g,o,none⟩ v) (some g):=⟨rfl,rfl,rfl,by simp [World.setCell],fun k _ hne=>Below.heap_setCell w ⟨g,o,none⟩ v k (fun e=>hne (by rw [e]))⟩
theorem xR{w w1:World}(h:w.grownBy w1 none){g:Nat}(o:Nat)(v:Value)(hg:w.heap.size≤g):w.grownBy (w1.setCell ⟨g,o,none⟩ v) none:=zB h (zi w1 g o v) (fun k e=>by injection e with e;omega)
theorem Sl.shape{α:Type}{E:Enc α}{X:Nat→Prop}{w:World}{v:Value}{xs:List α}(h:Sl E X w v xs): ∃A n c,v= .slice A n c:=by
 obtain ⟨A,c,e,_,_⟩:=h.form;exact ⟨_,_,_,e⟩
theorem Acc.form0{α:Type}{E:Enc α}{base:Nat}{e:TypeId}{X:Nat→Prop}{w:World}{v:Value}{xs:List α}(h:Acc E base e X w v xs)(hn:0< xs.length): ∃g c,v= .slice (some ⟨g,0,none⟩) xs.length c∧base≤g∧g< w.heap.size∧xs.length≤c∧c≤9223372036854775807:=by
 have hlt:=h.lt;obtain ⟨A,c,e0,hc1,hc2⟩:=h.sl.form;obtain ⟨hb,css,h1,h2,h3⟩:=h;rcases h3.2 with ⟨hv,h0⟩|⟨g,cap,cur,hv,_,hh,_⟩
 ·omega
 ·have hg:=hlt g (by rw [hv];rfl);rw [hv] at e0;injection e0 with _ _ e3
  subst e3;exact ⟨g,cap,hv,hg.1,hg.2,hc1,hc2⟩
end
section
open Go Go.RowKit
theorem RZ(v:Value)(ls:List (List (Int×Int)))(X:Nat→Prop)(w:World)(h:Sl (zh zo) X w v ls)(hb:ls.length≤1000)(hb2: ∀x∈ls,x.length≤1000):
  Calls Tryz.prog 114 #[v] w (zH zo (fun g=>w.heap.size≤g) w ls.flatten):=by
 have H:=za h;have HB2:=za hb2;have HB:=za hb;obtain ⟨A,c,rfl,hc1,hc2⟩:=h.form;have HLN:Hid (∀j,(ls.take j).flatten.length≤j*1000):=za (fun j=>by
  induction j with
  |zero=>simp
  |succ j ih=>
   rcases Nat.lt_or_ge j ls.length with h|h
   ·rw [List.take_succ_eq_append_getElem h,List.flatten_append,List.length_append];have h1:=hb2 _ (List.getElem_mem h);have h2: [ls[j]].flatten.length=ls[j].length:=by simp
    rw [h2,Nat.add_mul];exact Nat.add_le_add ih (by rw [Nat.one_mul];exact h1)
   ·rw [List.take_of_length_le (show ls.length≤j+1 from Nat.le_succ_of_le h)];rw [List.take_of_length_le h] at ih;exact Nat.le_trans ih (Nat.mul_le_mul_right _ (Nat.le_succ j)))
 clear h hb hb2;go_enter Tryz.func114,Tryz.ntmps114;go_wp2_with fail;go_loopg [3,8] ls.length (fun g s3 s8 wx=> ∃j:Nat,j+g=ls.length∧s8= .int .i64 j∧Hid (Acc zo w.heap.size 153 (fun g=>w.heap.size≤g) wx s3 (ls.take j).flatten∧w.grownBy wx none))
 case atStart=>exact ⟨0,by omega,rfl,za ⟨Acc.nil _ _ _ _ _,gRf⟩⟩
 case round=>
  obtain ⟨j,hj,rfl,HX⟩:=hrel;cases gk with
  |zero=>
   obtain rfl:j=ls.length:=by omega
   have HR:Hid (Sl zo (fun g=>w.heap.size≤g) wr u3 ls.flatten∧w.grownBy wr none):=za ⟨by have:=HX.out.1.sl;rwa [List.take_length] at this,HX.out.2⟩;clear HX;go_wp2;go_ret;exact ⟨_,rfl,HR.out.1,HR.out.2⟩
  |succ m=>
   have hjn:(j:Int)< (ls.length:Int):=by omega
   have hjN:j< ls.length:=by omega
   obtain ⟨hacc,hg⟩:=HX.out;obtain ⟨g,o,c',u,e,_,_,hcu,hu⟩:=(H.out.kept hg).atS hjN;injection e with e1 e2 e3
   subst e1 e3;have HSN:Hid ((ls.take (j+1)).flatten=(ls.take j).flatten++ls[j]):=za (by rw [List.take_succ_eq_append_getElem hjN,List.flatten_append];simp);have HAC:=za hacc;have HG:=za hg;obtain ⟨A1,c1,e1,_,_⟩:=hu.form;have HLB:Hid (((ls.take j).flatten.length+ls[j].length)*16≤140737488355328):=za (by have h1:=HLN.out j;have h2:=HB.out;have h3:=HB2.out _ (List.getElem_mem hjN);omega);have HSZ:Hid (w.heap.size≤wr.heap.size):=za hg.size;have HU:=za hu;clear hacc hg HX hu e2;obtain ⟨y,hy⟩: ∃y,y=ls[j]:=⟨_,rfl⟩;rw [←hy] at e1 HSN HLB HU;clear hy;obtain ⟨ny,hny⟩: ∃y2,y2=y.length:=⟨_,rfl⟩;rw [←hny] at e1;subst e1;clear hny;go_wp2_with (at_builtin;refine xo rfl (.tmp 12) (.tmp 13) rfl (E:=zo) YE HAC.out rfl rfl HU.out (fun _ _ h=>h) HLB.out HSZ.out (fun _ h=>Nat.le_trans HSZ.out h) ?_);intro v2 w2 hacc2 hg2 hm2;have HFIN:Hid (Acc zo w.heap.size 153 (fun g=>w.heap.size≤g) w2 v2 (ls.take (j+1)).flatten∧w.grownBy w2 none):=za ⟨by rw [HSN.out];exact hacc2,zB HG.out hg2 (fun k e=>(HAC.out.lt k e).1)⟩;clear hacc2 hg2 hm2;go_wp2_with fail;go_roundg m
   case measure=>omega
   case rel=>exact ⟨j+1,by omega,by go_num,HFIN⟩
theorem Lr(v:Value)(ls:List (List (List Int)))(X:Nat→Prop)(w:World)(h:Sl (zh (zh ze)) X w v ls)(hb:ls.length≤1000)(hb2: ∀x∈ls,x.length≤1000):
  Calls Tryz.prog 112 #[v] w (zH (zh ze) TT w ls.flatten):=by
 have H:=za h.bounded;have HB2:=za hb2;have HB:=za hb;obtain ⟨A,c,rfl,hc1,hc2⟩:=h.form;have HLN:Hid (∀j,(ls.take j).flatten.length≤j*1000):=za (fun j=>by
  induction j with
  |zero=>simp
  |succ j ih=>
   rcases Nat.lt_or_ge j ls.length with h|h
   ·rw [List.take_succ_eq_append_getElem h,List.flatten_append,List.length_append];have h1:=hb2 _ (List.getElem_mem h);have h2: [ls[j]].flatten.length=ls[j].length:=by simp
    rw [h2,Nat.add_mul];exact Nat.add_le_add ih (by rw [Nat.one_mul];exact h1)
   ·rw [List.take_of_length_le (show ls.length≤j+1 from Nat.le_succ_of_le h)];rw [List.take_of_length_le h] at ih;exact Nat.le_trans ih (Nat.mul_le_mul_right _ (Nat.le_succ j)))
 clear h hb hb2;go_enter Tryz.func112,Tryz.ntmps112;go_wp2_with fail;go_loopg [3,8] ls.length (fun g s3 s8 wx=> ∃j:Nat,j+g=ls.length∧s8= .int .i64 j∧Hid (Acc (zh ze) w.heap.size 31 TT wx s3 (ls.take j).flatten∧w.grownBy wx none))
 case atStart=>exact ⟨0,by omega,rfl,za ⟨Acc.nil _ _ _ _ _,gRf⟩⟩
 case round=>
  obtain ⟨j,hj,rfl,HX⟩:=hrel;cases gk with
  |zero=>
   obtain rfl:j=ls.length:=by omega
   have HR:Hid (Sl (zh ze) TT wr u3 ls.flatten∧w.grownBy wr none):=za ⟨by have:=HX.out.1.sl;rwa [List.take_length] at this,HX.out.2⟩;clear HX;go_wp2;go_ret;exact ⟨_,rfl,HR.out.1,HR.out.2⟩
  |succ m=>
   have hjn:(j:Int)< (ls.length:Int):=by omega
   have hjN:j< ls.length:=by omega
   obtain ⟨hacc,hg⟩:=HX.out;obtain ⟨g,o,c',u,e,_,_,hcu,hu⟩:=(H.out.kept hg).atS hjN;injection e with e1 e2 e3
   subst e1 e3;have HSN:Hid ((ls.take (j+1)).flatten=(ls.take j).flatten++ls[j]):=za (by rw [List.take_succ_eq_append_getElem hjN,List.flatten_append];simp);have HAC:=za hacc;have HG:=za hg;obtain ⟨A1,c1,e1,_,_⟩:=hu.form;have HLB:Hid (((ls.take j).flatten.length+ls[j].length)*24≤140737488355328):=za (by have h1:=HLN.out j;have h2:=HB.out;have h3:=HB2.out _ (List.getElem_mem hjN);omega);have HSZ:Hid (w.heap.size≤wr.heap.size):=za hg.size;have HU:=za hu;have HNO:Hid (∀cs y,(zh ze).rep (fun g=>X g∧g< w.heap.size) wr cs y→(zh ze).rep (fun g=>TT g∧some g≠u3.ownBlock) wr cs y):=za (fun cs y h=>(zh ze).more h fun g _ hg=>⟨trivial,fun e=>by have:=(hacc.lt g e.symm).1;have:=hg.2;omega⟩);clear hacc hg HX hu e2;obtain ⟨y,hy⟩: ∃y,y=ls[j]:=⟨_,rfl⟩;rw [←hy] at e1 HSN HLB HU;clear hy;obtain ⟨ny,hny⟩: ∃y2,y2=y.length:=⟨_,rfl⟩;rw [←hny] at e1;subst e1;clear hny;go_wp2_with (at_builtin;refine xo rfl (.tmp 12) (.tmp 13) rfl (E:=zh ze) Zb HAC.out rfl rfl HU.out HNO.out HLB.out HSZ.out (fun _ _=>trivial) ?_);intro v2 w2 hacc2 hg2 hm2;have HFIN:Hid (Acc (zh ze) w.heap.size 31 TT w2 v2 (ls.take (j+1)).flatten∧w.grownBy w2 none):=za ⟨by rw [HSN.out];exact hacc2,zB HG.out hg2 (fun k e=>(HAC.out.lt k e).1)⟩;clear hacc2 hg2 hm2;go_wp2_with fail;go_roundg m
   case measure=>omega
   case rel=>exact ⟨j+1,by omega,by go_num,HFIN⟩
def Ku(l:List (Int×Int)):List Int:=(l.map fun x=> [x.1,x.2]).flatten
def Zv(M:List (List (List Int)))(a b:List (List (Int×Int))):List Int:= [M.flatten.flatten,Ku a.flatten,Ku b.flatten].flatten
theorem LL(v:Value)(ls:List (List Int))(X:Nat→Prop)(w:World)(h:Sl (zh ze) X w v ls)(hb:ls.length≤1000)(hb2: ∀x∈ls,x.length≤1000):
  Calls Tryz.prog 123 #[v] w (zH ze (fun g=>w.heap.size≤g) w ls.flatten):=by
 have HF:=za (Xf v ls X w h hb hb2);obtain ⟨A,c,rfl,_,_⟩:=h.form;clear h hb hb2;go_enter Tryz.func123,Tryz.ntmps123;go_wp2_with fail;refine HF.out.mono ?_;rintro e w1 ⟨v1,rfl,hs1,hg1⟩;have HR:Hid (Sl ze (fun g=>w.heap.size≤g) w1 v1 ls.flatten∧w.grownBy w1 none):=za ⟨hs1,hg1⟩;clear hs1 hg1 HF;go_wp2;go_ret;exact ⟨_,rfl,HR.out⟩
theorem ZO{α:Type}(n:Nat): ∀(ls:List (List α)),(∀x∈ls,x.length≤n)→ls.flatten.length≤ls.length*n
 | [],_=>by simp
 |x::ls,h=>by
  have h1:=ZO n ls fun y hy=>h y (List.mem_cons_of_mem _ hy)
  have h2:=h x List.mem_cons_self;rw [List.flatten_cons,List.length_append,List.length_cons,Nat.add_mul,Nat.one_mul];omega
theorem Tj(l:List (Int×Int)):(Ku l).length=2*l.length:=by
 induction l with
 |nil=>rfl
 |cons x l ih=>
  have:Ku (x::l)= [x.1,x.2]++Ku l:=rfl
  rw [this,List.length_append,ih,List.length_cons];simp;omega
theorem Xg(vm va vb:Value)(M:List (List (List Int)))(a b:List (List (Int×Int)))(X Y Z:Nat→Prop)(w:World)(hm:Sl (zh (zh ze)) X w vm M)(ha:Sl (zh zo) Y w va a)(hb:Sl (zh zo) Z w vb b)
  (m1:M.length≤10∧ ∀x∈M,x.length≤3∧ ∀y∈x,y.length≤3) (a1:a.length≤10∧ ∀x∈a,x.length≤3) (b1:b.length≤10∧ ∀x∈b,x.length≤3):
  Calls Tryz.prog 50 #[vm,va,vb] w (zH ze (fun g=>w.heap.size≤g) w (Zv M a b)):=by
 have HM:=za hm;have HA:=za ha;have HB:=za hb;have M1:=za m1;have A1:=za a1;have B1:=za b1;obtain ⟨Am,nm,cm,rfl⟩:=hm.shape;obtain ⟨Aa,na,ca,rfl⟩:=ha.shape;obtain ⟨Ab,nb,cb,rfl⟩:=hb.shape;obtain ⟨mx,mt,hx,hpr⟩: ∃(x:List (List Int)) (t:List Int),M.flatten=x∧x.flatten=t:=⟨_,_,rfl,rfl⟩;have fl1:mx.length≤30∧ ∀y∈mx,y.length≤3:=by
  rw [←hx];refine ⟨Nat.le_trans (ZO 3 M fun y hy=>(m1.2 y hy).1) (by have:=m1.1;omega),fun y hy=> ?_⟩;obtain ⟨x,hx,hy⟩:=List.mem_flatten.1 hy;exact (m1.2 x hx).2 y hy
 have fl2:mt.length≤90:=by
  rw [←hpr];exact Nat.le_trans (ZO 3 mx fl1.2) (by have:=fl1.1;omega)
 have fa:a.flatten.length≤30:=Nat.le_trans (ZO 3 a a1.2) (by have:=a1.1;omega);have fb:b.flatten.length≤30:=Nat.le_trans (ZO 3 b b1.2) (by have:=b1.1;omega);have F1:=za fl1;have F2:=za fl2;have FA:=za fa;have FB:=za fb;have HMX:Hid (M.flatten=mx∧mx.flatten=mt):=za ⟨hx,hpr⟩;clear hm ha hb m1 a1 b1 hx hpr fl1 fl2 fa fb;go_enter Tryz.func50,Tryz.ntmps50;go_wp2_with fail;refine (Lr _ M X w HM.out (by have:=M1.out.1;omega) (fun x hx=>by have:=(M1.out.2 x hx).1;omega)).mono ?_;rintro e w1 ⟨v1,rfl,hs1,hg1⟩;have HG1:=za hg1;rw [HMX.out.1] at hs1;have HS1:=za hs1;obtain ⟨Ax,nx,cx,rfl⟩:=hs1.shape;clear hs1 hg1;go_wp2_with fail;refine (Xf _ mx TT w1 HS1.out (by have:=F1.out.1;omega) (fun x hx=>by have:=F1.out.2 x hx;omega)).mono ?_;rintro e w2 ⟨v2,rfl,hs2,hg2⟩;have HG2:=zE hg2 HG1;rw [HMX.out.2] at hs2;have HT2:Hid (Sl ze (fun g=>w.heap.size≤g) w2 v2 mt):=za (hs2.more fun g _ h=>Nat.le_trans HG1.out.size h);obtain ⟨Ay,ny,cy,rfl⟩:=hs2.shape;clear hs2 hg2;go_wp2_with fail;refine (RZ _ a Y w2 (HA.out.kept HG2.out) (by have:=A1.out.1;omega) (fun x hx=>by have:=A1.out.2 x hx;omega)).mono ?_;rintro e w3 ⟨v3,rfl,hs3,hg3⟩;have HG3:=zE hg3 HG2;have HT3:=za (HT2.out.kept hg3);have HP3:=za hs3;obtain ⟨Az,nz,cz,rfl⟩:=hs3.shape;clear hs3 hg3 HT2;go_wp2_with fail;refine (US _ a.flatten _ w3 HP3.out (by have:=FA.out;omega)).mono ?_;rintro e w4 ⟨v4,rfl,hs4,hg4⟩;have HT4:=za (HT3.out.kept hg4);have HA4:Hid (Sl ze (fun g=>w.heap.size≤g) w4 v4 (Ku a.flatten)):=za (hs4.more fun g _ h=>Nat.le_trans HG3.out.size h)
 have HG4:=zE hg4 HG3;obtain ⟨Au,nu,cu,rfl⟩:=hs4.shape;clear hs4 hg4 HT3 HP3;go_wp2_with fail;refine (RZ _ b Z w4 (HB.out.kept HG4.out) (by have:=B1.out.1;omega) (fun x hx=>by have:=B1.out.2 x hx;omega)).mono ?_;rintro e w5 ⟨v5,rfl,hs5,hg5⟩;have HG5:=zE hg5 HG4;have HT5:=za (HT4.out.kept hg5);have HA5:=za (HA4.out.kept hg5);have HP5:=za hs5;obtain ⟨Av,nv,cv,rfl⟩:=hs5.shape;clear hs5 hg5 HT4 HA4;go_wp2_with fail;refine (US _ b.flatten _ w5 HP5.out (by have:=FB.out;omega)).mono ?_;rintro e w6 ⟨v6,rfl,hs6,hg6⟩;have HG6:=zE hg6 HG5;have HT6:=za (HT5.out.kept hg6);have HA6:=za (HA5.out.kept hg6);have HB6:=za hs6;obtain ⟨Aw,nw,cw,rfl⟩:=hs6.shape;have HTL:Hid (Sl (zh ze) TT (w6.alloc (Obj.cells #[.slice Ay ny cy, .slice Au nu cu, .slice Aw nw cw] 31)) (.slice (some ⟨w6.heap.size,0,none⟩) 3 3) [mt,Ku a.flatten,Ku b.flatten]):=za (Sl.build [[.slice Ay ny cy], [.slice Au nu cu], [.slice Aw nw cw]] rfl ⟨⟨_,rfl,HT6.out.more fun _ _ _=>trivial⟩,⟨_,rfl,HA6.out.more fun _ _ _=>trivial⟩,⟨_,rfl,hs6.more fun _ _ _=>trivial⟩,trivial⟩ rfl (by decide));obtain ⟨w7,hw7⟩: ∃y,y=w6.alloc (Obj.cells #[.slice Ay ny cy, .slice Au nu cu, .slice Aw nw cw] 31):=⟨_,rfl⟩;have HG7:Hid (w.grownBy w7 none):=za (by rw [hw7];exact HG6.out.trans (gAl _ _ none));rw [←hw7] at HTL;clear hs6 hg6 HT5 HA5 HP5 HT6 HA6 HB6;go_wp2_with fail;rw [←hw7];clear hw7;refine (Xf _ [mt,Ku a.flatten,Ku b.flatten] TT w7 HTL.out (by simp) (fun x hx=>by
  simp only [List.mem_cons,List.not_mem_nil,or_false] at hx;rcases hx with rfl|rfl|rfl
  ·have:=F2.out;omega
  ·rw [Tj];have:=FA.out;omega
  ·rw [Tj];have:=FB.out;omega)).mono ?_
 rintro e w8 ⟨v8,rfl,hs8,hg8⟩;have HR:Hid (Sl ze (fun g=>w.heap.size≤g) w8 v8 (Zv M a b)∧w.grownBy w8 none):=za ⟨by
  unfold Zv;rw [HMX.out.1,HMX.out.2];exact hs8.more fun g _ h=>Nat.le_trans HG7.out.size h,HG7.out.trans hg8⟩
 clear hs8 hg8 HTL;go_wp2;go_ret;exact ⟨_,rfl,HR.out⟩
end
section
open Go Go.RowKit
theorem Hb{a b:Int}(h:a=b):Ending.returned (.int .i64 a)= .returned (.int .i64 b):=by rw [h]
def Yv(q x:Int)(l:List Int)(o:Int):Int:=l.foldl (fun o y=>ZW (yg o x q) y q) o
def zR(q:Int)(c:List Int)(x:Int):Int:=Yv q x c.reverse 0
theorem UP(q x:Int): ∀(l:List Int) (o:Int),U64 o→U64 (Yv q x l o)
 | [],_,h=>h
 |_::l,_,_=>UP q x l _ (TR _ _ _)
theorem xG(q:Int)(c:List Int)(x:Int):U64 (zR q c x):=UP q x _ _ ⟨by decide,by decide⟩
theorem Po(q x:Int)(l:List Int)(j:Nat)(h:j< l.length)(o:Int):Yv q x (l.take (j+1)) o=ZW (yg (Yv q x (l.take j) o) x q) l[j] q:=by
 unfold Yv;rw [List.take_succ_eq_append_getElem h,List.foldl_append];rfl
theorem OM(l:List Int)(j:Nat)(h:j< l.length):l.reverse[j]'(by simpa using h)=l[l.length - 1 - j]'(by omega):=by simp
theorem Ym(v:Value)(l:List Int)(x q:Int)(X:Nat→Prop)(w:World)(h:Sl ze X w v l)(hx:U64 x):
  Calls Tryz.prog 88 #[v, .int .u64 x, .int .u64 q] w fun e w'=>e= .returned (.int .u64 (zR q l x))∧w.grownBy w' none:=by
 have H:=za h;have HX:=za hx;obtain ⟨A,c,rfl,hc1,hc2⟩:=h.form;have HST:Hid (w.grownBy w none∧U64 0∧(0:Int)=Yv q x (l.reverse.take 0) 0):=za ⟨World.grownBy.refl w none,⟨by decide,by decide⟩,rfl⟩;clear h hx;obtain ⟨n,hn⟩: ∃n,n=l.length:=⟨_,rfl⟩;have HN:=za hn;rw [←hn] at hc1 ⊢;have hn9:(n:Int)≤9223372036854775807:=by omega
 clear hn;go_enter Tryz.func88,Tryz.ntmps88;go_wp2_with fail;go_loopg [7,11] n (fun g s7 s11 wx=> ∃(j:Nat) (o:Int),j+g=n∧s11= .int .i64 j∧s7= .int .u64 o∧Hid (w.grownBy wx none∧U64 o∧o=Yv q x (l.reverse.take j) 0))
 case atStart=>exact ⟨0,0,by omega,rfl,rfl,HST⟩
 case round=>
  obtain ⟨j,o,hj,rfl,rfl,HR⟩:=hrel;cases gk with
  |zero=>
   obtain rfl:j=n:=by omega
   have HE:Hid (o=zR q l x):=za (by rw [HR.out.2.2,HN.out,zR,List.take_of_length_le (by simp)]);have HG:=za HR.out.1;clear HR HST;go_wp2;go_ret;exact ⟨QW HE.out,HG.out⟩
  |succ m=>
   have hjn:(j:Int)< (n:Int):=by omega
   have hjN:j< l.length:=by rw [←HN.out];omega
   obtain ⟨r,hr⟩: ∃r,r+j+1=n:=⟨m,by omega⟩;have hrl:r< l.length:=by rw [←HN.out];omega
   obtain ⟨g,of,c',e,_,_,hcu,hu⟩:=(H.out.kept HR.out.1).atU hrl;injection e with e1 e2 e3
   subst e1 e3;have HGd:Hid (w.grownBy wr.drew none):=za (zf HR.out.1 1);have HC0:=za (fun (w':World) (hw:wr.drew.grownBy w' none)=>(H.out.kept (HGd.out.trans hw)).atU hrl);have HC:Hid (∀w',wr.drew.grownBy w' none→w'.cell? ⟨g,of+r,none⟩=some (.int .u64 l[r])):=za (fun w' hw=>by
    obtain ⟨g2,of2,c2,e2,_,_,h3,_⟩:=HC0.out w' hw;injection e2 with e21 e22 e23
    injection e21 with e21
    injection e21 with e24 e25
    subst e24 e25;exact h3)
   have HY:=za hu;have HO:=za HR.out.2.1;have HSN:Hid (ZW (yg o x q) l[r] q=Yv q x (l.reverse.take (j+1)) 0):=za (by
    rw [Po q x l.reverse j (by simpa using hjN),OM l j hjN, ←HR.out.2.2]
    congr 2
    have:=HN.out
    omega)
   have e4:IntKind.i64.wrap ((n:Int) - 1)=(n:Int) - 1:=IntWalk.i64_in _ (by omega);have e5:IntKind.i64.wrap ((n:Int) - 1 - (j:Int))=(r:Int):=by rw [IntWalk.i64_in _ (by omega)];omega
   have hr0:(0:Int)≤(r:Int):=by omega
   have hrn:(r:Int)< (n:Int):=by omega
   clear hcu hu HC0 HR HST e2;generalize l[r]=y at *;go_wp2_with fail;refine Zf 15 ?_;refine mP0 (.int .u64 o) ?_;refine mP0 (.int .u64 x) ?_;refine mP0 (.int .u64 q) ?_;refine zn.step (Pv.eq (.int .u64 (yg o x q))) [(0,14),(1,15),(2,16)] (by kernel_rfl) (fun w' hw'=> ?_) ?_
   ·rintro _ rfl;rintro _ rfl;rintro _ rfl;refine zq rfl fun K hK=> ?_
    go_simp;refine (VJ o x q w' HO.out HX.out).mono ?_;rintro e w3 ⟨rfl,hg⟩;exact hK _ _ rfl rfl hg
   refine mP0 (.slice (some ⟨g,of,none⟩) n c) ?_;refine mP0 (.slice (some ⟨g,of,none⟩) n c) ?_;refine zn.step (Pv.eq (.int .i64 (n:Int))) [(5,19)] (by kernel_rfl) (fun w' hw'=> ?_) ?_
   ·rintro _ rfl;refine zq rfl fun K hK=> ?_
    go_simp;exact hK _ _ rfl rfl gRf
   refine zn.step (Pv.eq (.int .i64 ((n:Int) - 1))) [(6,20)] (by kernel_rfl) (fun w' hw'=> ?_) ?_
   ·rintro _ rfl;refine zq rfl fun K hK=> ?_
    go_simp;exact hK _ _ rfl rfl gRf
   refine mP0 (.int .i64 (j:Int)) ?_;refine zn.step (Pv.eq (.int .i64 (r:Int))) [(7,21),(8,22)] (by kernel_rfl) (fun w' hw'=> ?_) ?_
   ·rintro _ rfl;rintro _ rfl;refine zq rfl fun K hK=> ?_
    go_simp;exact hK _ _ rfl rfl gRf
   refine zn.step (Pv.eq (.pointer (some ⟨g,of+r,none⟩))) [(4,18),(9,23)] (by kernel_rfl) (fun w' hw'=> ?_) ?_
   ·rintro _ rfl;rintro _ rfl;refine zq rfl fun K hK=> ?_
    go_simp;exact hK _ _ rfl rfl gRf
   refine zn.step (Pv.eq (.int .u64 y)) [(10,24)] (by kernel_rfl) (fun w' hw'=> ?_) ?_
   ·rintro _ rfl;refine zq rfl fun K hK=> ?_
    have hc:=HC.out w' hw';go_simp;exact hK _ _ rfl rfl gRf
   refine mP0 (.int .u64 q) ?_;refine zn.step (Pv.eq (.int .u64 (ZW (yg o x q) y q))) [(3,17),(11,25),(12,26)] (by kernel_rfl) (fun w' hw'=> ?_) ?_
   ·rintro _ rfl;rintro _ rfl;rintro _ rfl;refine zq rfl fun K hK=> ?_
    go_simp;refine (Ov (yg o x q) y q w' (yD _ _ _) HY.out).mono ?_;rintro e w3 ⟨rfl,hg⟩;exact hK _ _ rfl rfl hg
   refine zn.step (Pv.eq (.int .u64 (ZW (yg o x q) y q))) [(13,27)] (by kernel_rfl) (fun w' hw'=> ?_) ?_
   ·rintro _ rfl;refine zq rfl fun K hK=> ?_
    go_simp;exact hK _ _ rfl rfl gRf
   intro w3 hw3
   iterate 14 (intro _ _)
   rintro _ rfl;have HE:Hid (w.grownBy w3 none∧U64 (ZW (yg o x q) y q)∧ZW (yg o x q) y q=Yv q x (l.reverse.take (j+1)) 0):=za ⟨HGd.out.trans hw3,TR _ _ _,HSN.out⟩;clear hw3 e4 e5;refine wpList_nil ?_;simp only [Act.put,sAa,sAb,sAc];go_wp2_with fail;go_roundg m
   case measure=>omega
   case rel=>exact ⟨j+1,_,by omega,by go_num,rfl,HE⟩
theorem PE(v:Value)(l:List (List Int))(X:Nat→Prop)(w:World)(h:Sl (zh ze) X w v l)(hb2: ∀c∈l,c.length≤100000):
  Calls Tryz.prog 154 #[v] w fun e w'=>e= .returned (.int .i64 (yB l:Nat))∧w'=w:=by
 have H:=za h;have HB2:=za hb2;obtain ⟨A,c,rfl,hc1,hc2⟩:=h.form;have HN0:Hid (0=yB (l.take 0)):=za rfl;clear h hb2;go_enter Tryz.func154,Tryz.ntmps154;go_wp2_with fail;go_loopg [3,8] l.length (fun g s3 s8 wx=> ∃j n:Nat,j+g=l.length∧s8= .int .i64 j∧s3= .int .i64 n∧Hid (n=yB (l.take j))∧Hid (wx=w))
 case atStart=>exact ⟨0,0,by omega,rfl,rfl,HN0,za rfl⟩
 case round=>
  obtain ⟨j,n,hj,rfl,rfl,HN,HX⟩:=hrel;obtain rfl:wr=w:=HX.out;cases gk with
  |zero=>
   obtain rfl:j=l.length:=by omega
   have HNW:Hid (n=yB l):=za (by have:=HN.out;rwa [List.take_length] at this);clear HX HN;go_wp2;go_ret;exact ⟨Hb (by rw [HNW.out]),rfl⟩
  |succ m=>
   have hjn:(j:Int)< (l.length:Int):=by omega
   have hjN:j< l.length:=by omega
   obtain ⟨g,o,c',u,e,_,_,hcu,hsu⟩:=H.out.atS hjN;injection e with e1 e2 e3
   subst e1 e3;obtain ⟨A1,c1,e1,_,_⟩:=hsu.form;subst e1;have HSN:Hid (yB (l.take (j+1))=max n l[j].length):=za (by rw [Re l j hjN,HN.out]);have hnb:n≤100000:=by rw [HN.out];exact Xt _ _ (fun c hc=>HB2.out c (List.mem_of_mem_take hc))
   have hlb:l[j].length≤100000:=HB2.out _ (List.getElem_mem hjN);clear hsu e2 HN;generalize l[j].length=n1 at *;go_wp2_with fail
   all_goals
    go_roundg m
    case measure=>omega
    case rel=>exact ⟨j+1,max n n1,by omega,by go_num,by congr 1;omega,za HSN.out.symm,za rfl⟩
end
section
open Go.RowKit
end
section
open Go.RowKit
def TS(w:World)(v:Value)(e:Ending)(w':World):Prop:=e= .returned v∧ ∃n,w'=w.drewN n
theorem Hl(v1 v2:Value)(xs:List Int)(X Y:Nat→Prop)(w:World)(h1:Sl ze X w v1 xs)(h2:Sl ze Y w v2 xs):
  Calls Tryz.prog 68 #[v1,v2] w (TS w (.bool true)):=by
 have H1:=za h1;have H2:=za h2;obtain ⟨A1,c1,rfl,hc1,hc2⟩:=h1.form;obtain ⟨A2,c2,rfl,_,_⟩:=h2.form;clear h1 h2;have HST:Hid (∃n,w=w.drewN n):=za ⟨0,rfl⟩;go_enter Tryz.func68,Tryz.ntmps68;go_wp2_with fail;go_loopg [5] xs.length (fun g s5 wx=> ∃j:Nat,j+g=xs.length∧s5= .int .i64 j∧Hid (∃n,wx=w.drewN n))
 case atStart=>exact ⟨0,by omega,rfl,HST⟩
 case round=>
  obtain ⟨j,hj,rfl,HX⟩:=hrel;obtain ⟨n0,rfl⟩:=HX.out;cases gk with
  |zero=>
   obtain rfl:j=xs.length:=by omega
   clear HX HST;go_wp2;go_ret;exact ⟨rfl,_,rfl⟩
  |succ m=>
   have hjn:(j:Int)< (xs.length:Int):=by omega
   have hj0:(0:Int)≤(j:Int):=by omega
   have hjN:j< xs.length:=by omega
   obtain ⟨g1,o1,c1',e1,_,_,a1,u1⟩:=H1.out.atU hjN;injection e1 with e11 e12 e13
   subst e11 e13;obtain ⟨g2,o2,c2',e2,_,_,a2,_⟩:=H2.out.atU hjN;injection e2 with e21 e22 e23
   subst e21 e23;clear HX HST e12 e22;generalize xs[j]=y at *;go_wp2_with fail;go_quiet (fail);go_wp2_with fail;go_roundg m
   case measure=>omega
   case rel=>exact ⟨j+1,by omega,by go_num,za ⟨_,rfl⟩⟩
theorem JO(v1 v2:Value)(xs:List (List Int))(X Y:Nat→Prop)(w:World)(h1:Sl (zh ze) X w v1 xs)(h2:Sl (zh ze) Y w v2 xs):
  Calls Tryz.prog 33 #[v1,v2] w (TS w (.bool true)):=by
 have H1:=za h1;have H2:=za h2;obtain ⟨A1,c1,rfl,hc1,hc2⟩:=h1.form;obtain ⟨A2,c2,rfl,_,_⟩:=h2.form;clear h1 h2;have HST:Hid (∃n,w=w.drewN n):=za ⟨0,rfl⟩;go_enter Tryz.func33,Tryz.ntmps33;go_wp2_with fail;go_loopg [5] xs.length (fun g s5 wx=> ∃j:Nat,j+g=xs.length∧s5= .int .i64 j∧Hid (∃n,wx=w.drewN n))
 case atStart=>exact ⟨0,by omega,rfl,HST⟩
 case round=>
  obtain ⟨j,hj,rfl,HX⟩:=hrel;obtain ⟨n0,rfl⟩:=HX.out;cases gk with
  |zero=>
   obtain rfl:j=xs.length:=by omega
   clear HX HST;go_wp2;go_ret;exact ⟨rfl,_,rfl⟩
  |succ m=>
   have hjn:(j:Int)< (xs.length:Int):=by omega
   have hj0:(0:Int)≤(j:Int):=by omega
   have hjN:j< xs.length:=by omega
   obtain ⟨g1,o1,c1',t1,e1,_,_,a1,k1⟩:=H1.out.atS hjN;injection e1 with e11 e12 e13
   subst e11 e13;obtain ⟨g2,o2,c2',t2,e2,_,_,a2,k2⟩:=H2.out.atS hjN;injection e2 with e21 e22 e23
   subst e21 e23;have HN:=za (fun k=>Hl t1 t2 xs[j] X Y (w.drewN k) (k1.kept (zf (World.grownBy.refl w none) k)) (k2.kept (zf (World.grownBy.refl w none) k)));obtain ⟨B1,d1,rfl,_,_⟩:=k1.form;obtain ⟨B2,d2,rfl,_,_⟩:=k2.form;clear HX HST e12 e22 k1 k2;generalize xs[j].length=n1 at *;go_wp2_with fail;go_quiet ((go_at_call 68;exact Rv (HN.out _)));go_wp2_with fail;go_roundg m
   case measure=>omega
   case rel=>exact ⟨j+1,by omega,by go_num,za ⟨_,rfl⟩⟩
end
section
open Go Go.RowKit
end
section
open Go Go.RowKit
def GA(a m:Int):Option Nat:=(List.range m.toNat).find? fun x=>(a*(x:Int))%m==1%m
theorem RQ{a m:Int}{x:Nat}(h:GA a m=some x):(x:Int)< m∧Cg m (a*x) 1:=by
 have h1:=List.find?_some h;have h2:=List.mem_of_find?_eq_some h;have h3:=List.mem_range.1 h2;refine ⟨by omega, ?_⟩;simp at h1;exact h1
theorem VP{a m:Int}(hm:0< m):yd a m↔(GA a m).isSome=true:=by
 constructor
 ·rintro ⟨x,h1,h2,h3⟩;rw [Option.isSome_iff_ne_none];intro hn
  have:=List.find?_eq_none.1 hn x.toNat (List.mem_range.2 (by omega))
  rw [Int.toNat_of_nonneg h1] at this;simp at this;exact this h3
 ·intro h;obtain ⟨x,hx⟩:=Option.isSome_iff_exists.1 h;obtain ⟨h1,h2⟩:=RQ hx;exact ⟨x,by omega,h1,h2⟩
theorem Ll{a m:Int}(hm:0< m):TW a m=((GA a m).getD 0:Nat):=by
 cases h:GA a m with
 |none=>
  have: ¬yd a m:=by rw [VP hm,h];simp
  simp [TW,this]
 |some x=>
  obtain ⟨h1,h2⟩:=RQ h;exact Lm (by omega) h1 h2
end
section
open Go.RowKit
def yH:List Int:= [2,3,5,7,11,13,17,19,23,29,31,37]
def zK(w:World):Prop:=(∀j,j< Lib.deBruijn64tab.length→w.cell? ⟨1,j,none⟩=some (.int .u8 (Lib.deBruijn64tab.getD j 0)))∧(∀j,j< 12→w.cell? ⟨0,j,none⟩=some (.int .u64 (yH.getD j 0)))
theorem zK.drewN{w:World}(h:zK w)(n:Nat):zK (w.drewN n):=h
theorem Mh(x k idx:Nat)(w:World)(hx0:((x:Int)==0)=false)
  (key:IntKind.u64.wrap (bits BinOp.and IntKind.u64 (x:Int) (IntKind.u64.wrap (-(x:Int)))*285870213051353865) / 288230376151711744=(idx:Int))
  (hi:idx< 64) (hk:k< 64) (hcell:w.cell? ⟨1,idx,none⟩=some (.int .u8 k)):
  Calls Tryz.prog 137 #[.int .u64 x] w fun e w'=>e= .returned (.int .i64 k)∧w'=w:=by
 go_enter Tryz.func137,Tryz.ntmps137;go_wp2_with (simp only [key]);go_ret;exact ⟨rfl,rfl⟩
theorem KI(x a:Nat)(hx:x< 18446744073709551616)(hx0:x≠0)(hlow:x &&& (18446744073709551616 - x)=a):
  IntKind.u64.wrap (bits BinOp.and IntKind.u64 (x:Int) (IntKind.u64.wrap (-(x:Int)))*285870213051353865) / 288230376151711744=((a*285870213051353865%18446744073709551616 / 288230376151711744:Nat):Int):=by
 have e1:IntKind.u64.wrap (-(x:Int))=((18446744073709551616 - x:Nat):Int):=by rw [IntKind.wrap_u64];omega
 rw [e1,bits_and_u64_nat x _ hx (by omega),hlow,IntKind.wrap_u64];omega
theorem KJ(x:Int)(w:World)(h0:0< x)(h1:x< 18446744073709551616)(hT:zK w):
  Calls Tryz.prog 137 #[.int .u64 x] w fun e w'=>e= .returned (.int .i64 (Lib.ctz 64 x.toNat))∧w'=w:=by
 obtain ⟨n,rfl⟩:=Int.eq_ofNat_of_zero_le (show 0≤x by omega);rw [Int.toNat_natCast];have hx0:n≠0:=by omega
 have hx:n< 18446744073709551616:=by omega
 obtain ⟨hlow,hk⟩:=Lib.lowest_bit 64 n hx0 hx;obtain ⟨hi,htab⟩:=Lib.deBruijn64_at _ hk;have hcell:=hT.1 _ hi;rw [htab] at hcell;exact Mh n _ _ w (by simp;omega) (KI n _ hx hx0 hlow) hi hk hcell
def Kt(n:Int):Nat→Int→Bool
 |0,_=>false
 |k+1,x=>x==n - 1||Kt n k (yg x x n)
def GN(n a:Int)(t:Nat):Bool:=Um a ((n - 1) / 2 ^ t) n==1||Kt n t (Um a ((n - 1) / 2 ^ t) n)
def goB(n:Int)(t:Nat):List Int→Bool
 | []=>true
 |a::l=>if n%a=0 then decide (n=a) else if GN n a t then goB n t l else false
def Zu(n:Int):Bool:=if n< 2∨2305843009213693952< n then false else goB n (Lib.ctz 64 (n - 1).toNat) yH
theorem MI(n:Int)(w:World)(h:n< 2∨2305843009213693952< n):
  Calls Tryz.prog 81 #[.int .u64 n] w fun e w'=>e= .returned (.bool false)∧ ∃k,w'=w.drewN k:=by
 by_cases h2:n< 2
 ·clear h;have h2':decide (n< 2)=true:=by simpa using h2
  go_enter Tryz.func81,Tryz.ntmps81;go_wp2;go_step3;go_wp2
  (try rw [Exit.noGoto_ret])
  go_ret;exact ⟨rfl,0,rfl⟩
 ·have h2':decide (n< 2)=false:=by simpa using h2
  have h3:2305843009213693952< n:=h.resolve_left h2;have h3':decide (2305843009213693952< n)=true:=by simpa using h3
  clear h;go_enter Tryz.func81,Tryz.ntmps81;go_wp2;go_step3;go_wp2
  (try rw [Exit.noGoto_ret])
  go_ret;exact ⟨rfl,0,rfl⟩
theorem Ju(a e m:Int):U64 (Um a e m):=by
 cases hm:zY m with
 |false=>simp [Um,hm,U64]
 |true=>
  simp only [Um,hm,if_true];simp [zY] at hm
  have:=zW (a ^ e.toNat) m hm.1
  unfold U64;omega
theorem KS: ∀k:Nat,k< 12→ ∃p:Int,yH.drop k=p::yH.drop (k+1)∧2≤p∧p≤37∧
  ∀w,(Instr.index 206 (.agg #[.int .u64 2, .int .u64 3, .int .u64 5, .int .u64 7, .int .u64 11, .int .u64 13, .int .u64 17, .int .u64 19, .int .u64 23, .int .u64 29, .int .u64 31, .int .u64 37]) (.int .i64 k)).run Tryz.prog w= .ok (.int .u64 p) w:=by
 intro k hk
 match k,hk with
 |0,_=>exact ⟨2,rfl,by decide,by decide,fun _=>by kernel_rfl⟩
 |1,_=>exact ⟨3,rfl,by decide,by decide,fun _=>by kernel_rfl⟩
 |2,_=>exact ⟨5,rfl,by decide,by decide,fun _=>by kernel_rfl⟩
 |3,_=>exact ⟨7,rfl,by decide,by decide,fun _=>by kernel_rfl⟩
 |4,_=>exact ⟨11,rfl,by decide,by decide,fun _=>by kernel_rfl⟩
 |5,_=>exact ⟨13,rfl,by decide,by decide,fun _=>by kernel_rfl⟩
 |6,_=>exact ⟨17,rfl,by decide,by decide,fun _=>by kernel_rfl⟩
 |7,_=>exact ⟨19,rfl,by decide,by decide,fun _=>by kernel_rfl⟩
 |8,_=>exact ⟨23,rfl,by decide,by decide,fun _=>by kernel_rfl⟩
 |9,_=>exact ⟨29,rfl,by decide,by decide,fun _=>by kernel_rfl⟩
 |10,_=>exact ⟨31,rfl,by decide,by decide,fun _=>by kernel_rfl⟩
 |11,_=>exact ⟨37,rfl,by decide,by decide,fun _=>by kernel_rfl⟩
theorem Js(n:Int)(w:World)(h2:2≤n)(h3:n≤2305843009213693952)(hT:zK w):
  Calls Tryz.prog 81 #[.int .u64 n] w fun e w'=>e= .returned (.bool (goB n (Lib.ctz 64 (n - 1).toNat) yH))∧ ∃k,w'=w.drewN k:=by
 have h2':decide (n< 2)=false:=by simp;omega
 have h3':decide (2305843009213693952< n)=false:=by simp;omega
 have HT:=Lib.hid hT;obtain ⟨t,ht⟩: ∃t,t=Lib.ctz 64 (n - 1).toNat:=⟨_,rfl⟩;have ht64:t< 64:=by rw [ht];exact (Lib.lowest_bit 64 (n - 1).toNat (by omega) (by omega)).2
 have HZ:=Lib.hid (KJ (n - 1) w (by omega) (by omega) hT);rw [←ht] at HZ ⊢;clear ht hT;go_enter Tryz.func81,Tryz.ntmps81;go_wp2;go_step3;go_wp2_with fail;refine HZ.out.mono ?_;rintro e w' ⟨rfl,hw'⟩;rw [hw'];clear hw';go_wp2_with fail;go_step3;have k0:w.cell? ⟨0,0,none⟩=some (.int .u64 2):=HT.out.2 0 (by decide);have k1:w.cell? ⟨0,1,none⟩=some (.int .u64 3):=HT.out.2 1 (by decide);have k2:w.cell? ⟨0,2,none⟩=some (.int .u64 5):=HT.out.2 2 (by decide);have k3:w.cell? ⟨0,3,none⟩=some (.int .u64 7):=HT.out.2 3 (by decide);have k4:w.cell? ⟨0,4,none⟩=some (.int .u64 11):=HT.out.2 4 (by decide);have k5:w.cell? ⟨0,5,none⟩=some (.int .u64 13):=HT.out.2 5 (by decide);have k6:w.cell? ⟨0,6,none⟩=some (.int .u64 17):=HT.out.2 6 (by decide);have k7:w.cell? ⟨0,7,none⟩=some (.int .u64 19):=HT.out.2 7 (by decide);have k8:w.cell? ⟨0,8,none⟩=some (.int .u64 23):=HT.out.2 8 (by decide);have k9:w.cell? ⟨0,9,none⟩=some (.int .u64 29):=HT.out.2 9 (by decide);have k10:w.cell? ⟨0,10,none⟩=some (.int .u64 31):=HT.out.2 10 (by decide);have k11:w.cell? ⟨0,11,none⟩=some (.int .u64 37):=HT.out.2 11 (by decide);go_wp2_with fail;clear k0 k1 k2 k3 k4 k5 k6 k7 k8 k9 k10 k11;go_loopg [17] 12 (fun g s17 wx=> ∃k:Nat,k+g=12∧s17= .int .i64 k∧Hid (goB n t (yH.drop k)=goB n t yH)∧ ∃q,wx=w.drewN q)
 case atStart=>exact ⟨0,rfl,rfl,Lib.hid rfl,0,rfl⟩
 case round=>
  obtain ⟨k,hkg,rfl,HG,q,rfl⟩:=hrel;cases gk with
  |zero=>
   obtain rfl:k=12:=by omega
   have HE:Hid (true=goB n t yH):=Lib.hid HG.out;go_wp2
   (try rw [Exit.noGoto_ret])
   go_ret;exact ⟨congrArg Ending.returned (congrArg Value.bool HE.out),_,rfl⟩
  |succ g=>
   have hk:k< 12:=by omega
   obtain ⟨p,hd,hp2,hp37,hidx⟩:=KS k hk;have HG2:Hid (goB n t (p::yH.drop (k+1))=goB n t yH):=Lib.hid (by rw [←hd];exact HG.out);clear HG hd;by_cases hdv:n%p=0
   ·have HE:Hid ((n==p)=goB n t yH):=Lib.hid (by rw [←HG2.out];simp only [goB,hdv,if_true];rfl);go_wp2
    (try rw [Exit.noGoto_ret])
    go_ret;exact ⟨congrArg Ending.returned (congrArg Value.bool HE.out),_,rfl⟩
   ·have hdv':(n%p==0)=false:=by simpa using hdv
    have e0:0≤(n - 1) / 2 ^ t:=Int.ediv_nonneg (by omega) (Int.le_of_lt (Int.pow_pos (by decide)));have e1:(n - 1) / 2 ^ t≤n - 1:=Int.ediv_le_self _ (by omega);have HP:=Lib.hid (fun w=>MJ p ((n - 1) / 2 ^ t) n w ⟨by omega,by omega⟩ ⟨e0,by omega⟩);have hG3:=HG2.out;simp only [goB,hdv,if_false] at hG3;have HX:=Ju p ((n - 1) / 2 ^ t) n;unfold GN at hG3;generalize Um p ((n - 1) / 2 ^ t) n=x0 at HP hG3 HX;have HU:=Lib.hid HX;clear HX hdv HG2;by_cases hx1:x0=1
    ·have HN:Hid (goB n t (yH.drop (k+1))=goB n t yH):=Lib.hid (by rw [←hG3];simp [hx1]);clear hG3;have hx1':(x0==1)=true:=by simpa using hx1
     clear hx1;go_wp2_with fail;refine (HP.out _).mono ?_;rintro e w' ⟨rfl,n1,rfl⟩;go_wp2;go_roundg g
     case measure=>omega
     case rel=>exact ⟨k+1,by omega,by go_num,HN,_,rfl⟩
    ·have hx1':(x0==1)=false:=by simpa using hx1
     have HN:Hid ((if Kt n t x0 then goB n t (yH.drop (k+1)) else false)=goB n t yH):=Lib.hid (by rw [←hG3];simp [hx1']);clear hG3 hx1;go_wp2_with fail;refine (HP.out _).mono ?_;rintro e w' ⟨rfl,n1,rfl⟩;go_wp2_with fail;clear hidx;go_loopg [6,37] t (fun h s6 s37 wx=> ∃(x:Int) (j:Nat),j+h=t∧s6= .int .u64 x∧Hid (U64 x)∧s37= .int .i64 j∧Hid (Kt n h x=Kt n t x0)∧ ∃q,wx=w.drewN q)
     case atStart=>exact ⟨x0,0,by omega,rfl,HU,rfl,Lib.hid rfl,_,rfl⟩
     case round=>
      obtain ⟨x,j,hj,rfl,hx,rfl,hW,q2,rfl⟩:=hrel;cases gk with
      |zero=>
       obtain rfl:j=t:=by omega
       have HE:Hid (false=goB n j yH):=Lib.hid (by
        have:=HN.out
        rw [←hW.out] at this;simpa [Kt] using this)
       go_wp2
       (try rw [Exit.noGoto_ret])
       go_ret;exact ⟨congrArg Ending.returned (congrArg Value.bool HE.out),_,rfl⟩
      |succ h=>
       have hjt:(j:Int)< (t:Int):=by omega
       by_cases hxn:x=n - 1
       ·have HE:Hid (goB n t (yH.drop (k+1))=goB n t yH):=Lib.hid (by
         have:=HN.out
         rw [←hW.out] at this;simpa [Kt,hxn] using this)
        have hxn':(x==n - 1)=true:=by simpa using hxn
        clear hxn hx1';go_wp2;go_roundg g
        case measure=>omega
        case rel=>exact ⟨k+1,by omega,by go_num,HE,_,rfl⟩
       ·have hxn':(x==n - 1)=false:=by simpa using hxn
        have HW2:Hid (Kt n h (yg x x n)=Kt n t x0):=Lib.hid (by
         have:=hW.out
         simpa [Kt,hxn'] using this)
        have HX2:=Lib.hid (yD x x n);clear hxn;go_wp2_with fail;refine (Zl x x n _ hx.out hx.out).mono ?_;rintro e w' ⟨rfl,n2,rfl⟩;go_wp2;go_roundg h
        case measure=>omega
        case rel=>exact ⟨yg x x n,j+1,by omega,rfl,HX2,by go_num,HW2,_,rfl⟩
theorem Rx(n:Int)(w:World)(hT:zK w):
  Calls Tryz.prog 81 #[.int .u64 n] w fun e w'=>e= .returned (.bool (Zu n))∧ ∃k,w'=w.drewN k:=by
 by_cases h:n< 2∨2305843009213693952< n
 ·rw [show Zu n=false by simp only [Zu,if_pos h]];exact MI n w h
 ·rw [show Zu n=goB n (Lib.ctz 64 (n - 1).toNat) yH by simp only [Zu,if_neg h]];exact Js n w (by omega) (by omega) hT
end
section
open Go.ChangeShapes Go.WideShapes Go.RowKit
end
section
open Go.RowKit
def yf(x lo hi:Int):Bool:=decide (lo≤x) && decide (x≤hi)
theorem xW(x lo hi:Int):yf x lo hi=true↔lo≤x∧x≤hi:=by simp [yf]
theorem yy(x lo hi:Int)(b:Bool)(h:yf x lo hi=b)(w:World):
  Calls Tryz.prog 73 #[.int .i64 x, .int .i64 lo, .int .i64 hi] w fun e w'=>e= .returned (.bool b)∧w'=w:=by
 subst h;by_cases h1:lo≤x
 ·by_cases h2:x≤hi
  ·have HE:Hid (yf x lo hi=true):=za (by simp [yf,h1,h2]);go_enter Tryz.func73,Tryz.ntmps73;go_wp2;go_ret;exact ⟨zm HE.out.symm,rfl⟩
  ·have HE:Hid (yf x lo hi=false):=za (by simp [yf,h2]);have h2':decide (x≤hi)=false:=by simpa using h2
   clear h2;go_enter Tryz.func73,Tryz.ntmps73;go_wp2;go_ret;exact ⟨zm HE.out.symm,rfl⟩
 ·have HE:Hid (yf x lo hi=false):=za (by simp [yf,h1]);have h1':decide (lo≤x)=false:=by simpa using h1
  clear h1;go_enter Tryz.func73,Tryz.ntmps73;go_wp2;go_ret;exact ⟨zm HE.out.symm,rfl⟩
def m1(p:Par):Bool:=decide (2≤p.P) && decide (p.P≤2305843009213693952) && decide (2≤p.Q) && ((p.P - 1)%p.Q==0)
def m2(p:Par):Bool:=yf p.T 1 2
def m3(p:Par):Bool:=yf p.N (3*p.T+1) 7 && decide (p.N< p.Q)
def m4(p:Par):Bool:=yf p.Nodes p.N 8
def m5(p:Par):Bool:=yf p.K 1 2 && yf p.D 1 4
def m6(p:Par):Bool:=yf p.R 1 p.D
def m7(p:Par):Bool:=yf p.M 1 1048576 && yf p.X 1 1048576
def m8(p:Par):Bool:=decide (2*(p.D*p.M*p.X+p.M)< p.Q)
def m9(p:Par):Bool:=Zu p.Q && Zu p.P
def m10(p:Par):Bool:=decide (p.G≠1) && isB p p.G && decide (p.H≠1) && isB p p.H
def Va(p:Par):Bool:=m1 p && m2 p && m3 p && m4 p && m5 p && m6 p && m7 p && m8 p && m9 p && m10 p
theorem Ee(p:Par)(g:Nat)(w:World)(hp:p.ok)(hb:Bk w g 39 p.cells):
  Calls Tryz.prog 71 #[.pointer (some ⟨g,0,none⟩)] w fun e w'=>e= .returned (.bool (m1 p))∧w.grownBy w' none:=by
 have hc:=hb.prule;obtain ⟨p0,p1⟩:=hp.P;obtain ⟨q0,q1⟩:=hp.Q;clear hb hp;by_cases h1:2≤p.P
 ·by_cases h2:p.P≤2305843009213693952
  ·by_cases h3:2≤p.Q
   ·have HE:Hid (m1 p=((p.P - 1)%p.Q==0)):=za (by simp [m1,h1,h2,h3]);go_enter Tryz.func71,Tryz.ntmps71;go_wp2;go_ret;exact ⟨zm HE.out.symm,World.grownBy.refl w none⟩
   ·have HE:Hid (m1 p=false):=za (by simp [m1,h3]);have h3':decide (2≤p.Q)=false:=by simpa using h3
    clear h3;go_enter Tryz.func71,Tryz.ntmps71;go_wp2;go_ret;exact ⟨zm HE.out.symm,World.grownBy.refl w none⟩
  ·have HE:Hid (m1 p=false):=za (by simp [m1,h2]);have h2':decide (p.P≤2305843009213693952)=false:=by simpa using h2
   clear h2;go_enter Tryz.func71,Tryz.ntmps71;go_wp2;go_ret;exact ⟨zm HE.out.symm,World.grownBy.refl w none⟩
 ·have HE:Hid (m1 p=false):=za (by simp [m1,h1]);have h1':decide (2≤p.P)=false:=by simpa using h1
  clear h1;go_enter Tryz.func71,Tryz.ntmps71;go_wp2;go_ret;exact ⟨zm HE.out.symm,World.grownBy.refl w none⟩
theorem Ed(p:Par)(g:Nat)(w:World)(hb:Bk w g 39 p.cells):
  Calls Tryz.prog 72 #[.pointer (some ⟨g,0,none⟩)] w fun e w'=>e= .returned (.bool (m2 p))∧w.grownBy w' none:=by
 have hc:=hb.prule;have HW:=za (fun w=>yy p.T 1 2 _ rfl w);clear hb;go_enter Tryz.func72,Tryz.ntmps72;go_wp2_with fail;refine (HW.out _).mono ?_;rintro e w' ⟨rfl,rfl⟩;go_wp2;go_ret;exact ⟨rfl,gRf⟩
theorem Ec(p:Par)(g:Nat)(w:World)(hp:p.ok)(hb:Bk w g 39 p.cells)(h2:m2 p=true):
  Calls Tryz.prog 74 #[.pointer (some ⟨g,0,none⟩)] w fun e w'=>e= .returned (.bool (m3 p))∧w.grownBy w' none:=by
 have hc:=hb.prule;obtain ⟨t0,t1⟩:=(xW _ _ _).1 h2;obtain ⟨q0,q1⟩:=hp.Q;clear hb hp h2;cases hN:yf p.N (3*p.T+1) 7 with
 |true=>
  obtain ⟨n0,n1⟩:=(xW _ _ _).1 hN;have HW:=za (fun w=>yy p.N (3*p.T+1) 7 _ hN w);have HE:Hid (m3 p=decide (p.N< p.Q)):=za (by simp [m3,hN]);clear hN;go_enter Tryz.func74,Tryz.ntmps74;go_wp2_with fail;refine (HW.out _).mono ?_;rintro e w' ⟨rfl,rfl⟩;go_wp2;go_ret;exact ⟨zm HE.out.symm,gRf⟩
 |false=>
  have HW:=za (fun w=>yy p.N (3*p.T+1) 7 _ hN w);have HE:Hid (m3 p=false):=za (by simp [m3,hN]);clear hN;go_enter Tryz.func74,Tryz.ntmps74;go_wp2_with fail;refine (HW.out _).mono ?_;rintro e w' ⟨rfl,rfl⟩;go_wp2;go_ret;exact ⟨zm HE.out.symm,gRf⟩
theorem Eb(p:Par)(g:Nat)(w:World)(hb:Bk w g 39 p.cells):
  Calls Tryz.prog 75 #[.pointer (some ⟨g,0,none⟩)] w fun e w'=>e= .returned (.bool (m4 p))∧w.grownBy w' none:=by
 have hc:=hb.prule;have HW:=za (fun w=>yy p.Nodes p.N 8 _ rfl w);clear hb;go_enter Tryz.func75,Tryz.ntmps75;go_wp2_with fail;refine (HW.out _).mono ?_;rintro e w' ⟨rfl,rfl⟩;go_wp2;go_ret;exact ⟨rfl,gRf⟩
theorem Ea(p:Par)(g:Nat)(w:World)(hb:Bk w g 39 p.cells):
  Calls Tryz.prog 76 #[.pointer (some ⟨g,0,none⟩)] w fun e w'=>e= .returned (.bool (m5 p))∧w.grownBy w' none:=by
 have hc:=hb.prule;clear hb;cases hN:yf p.K 1 2 with
 |true=>
  have HW:=za (fun w=>yy p.K 1 2 _ hN w);have HV:=za (fun w=>yy p.D 1 4 _ rfl w);have HE:Hid (m5 p=yf p.D 1 4):=za (by simp [m5,hN]);clear hN;go_enter Tryz.func76,Tryz.ntmps76;go_wp2_with fail;refine (HW.out _).mono ?_;rintro e w' ⟨rfl,rfl⟩;go_wp2_with fail;refine (HV.out _).mono ?_;rintro e w' ⟨rfl,rfl⟩;go_wp2;go_ret;exact ⟨zm HE.out.symm,gRf⟩
 |false=>
  have HW:=za (fun w=>yy p.K 1 2 _ hN w);have HE:Hid (m5 p=false):=za (by simp [m5,hN]);clear hN;go_enter Tryz.func76,Tryz.ntmps76;go_wp2_with fail;refine (HW.out _).mono ?_;rintro e w' ⟨rfl,rfl⟩;go_wp2;go_ret;exact ⟨zm HE.out.symm,gRf⟩
theorem FZ(p:Par)(g:Nat)(w:World)(hb:Bk w g 39 p.cells):
  Calls Tryz.prog 77 #[.pointer (some ⟨g,0,none⟩)] w fun e w'=>e= .returned (.bool (m6 p))∧w.grownBy w' none:=by
 have hc:=hb.prule;have HW:=za (fun w=>yy p.R 1 p.D _ rfl w);clear hb;go_enter Tryz.func77,Tryz.ntmps77;go_wp2_with fail;refine (HW.out _).mono ?_;rintro e w' ⟨rfl,rfl⟩;go_wp2;go_ret;exact ⟨rfl,gRf⟩
theorem FY(p:Par)(g:Nat)(w:World)(hb:Bk w g 39 p.cells):
  Calls Tryz.prog 78 #[.pointer (some ⟨g,0,none⟩)] w fun e w'=>e= .returned (.bool (m7 p))∧w.grownBy w' none:=by
 have hc:=hb.prule;clear hb;cases hN:yf p.M 1 1048576 with
 |true=>
  have HW:=za (fun w=>yy p.M 1 1048576 _ hN w);have HV:=za (fun w=>yy p.X 1 1048576 _ rfl w);have HE:Hid (m7 p=yf p.X 1 1048576):=za (by simp [m7,hN]);clear hN;go_enter Tryz.func78,Tryz.ntmps78;go_wp2_with fail;refine (HW.out _).mono ?_;rintro e w' ⟨rfl,rfl⟩;go_wp2_with fail;refine (HV.out _).mono ?_;rintro e w' ⟨rfl,rfl⟩;go_wp2;go_ret;exact ⟨zm HE.out.symm,gRf⟩
 |false=>
  have HW:=za (fun w=>yy p.M 1 1048576 _ hN w);have HE:Hid (m7 p=false):=za (by simp [m7,hN]);clear hN;go_enter Tryz.func78,Tryz.ntmps78;go_wp2_with fail;refine (HW.out _).mono ?_;rintro e w' ⟨rfl,rfl⟩;go_wp2;go_ret;exact ⟨zm HE.out.symm,gRf⟩
theorem IJ(a b x y:Int)(ha0:0≤a)(ha:a≤x)(hb0:0≤b)(hb:b≤y):0≤a*b∧a*b≤x*y:=
 ⟨Int.mul_nonneg ha0 hb0,Int.mul_le_mul ha hb hb0 (by omega)⟩
theorem FX(p:Par)(g:Nat)(w:World)(hp:p.ok)(hb:Bk w g 39 p.cells)(h5:m5 p=true)(h7:m7 p=true):
  Calls Tryz.prog 79 #[.pointer (some ⟨g,0,none⟩)] w fun e w'=>e= .returned (.bool (m8 p))∧w.grownBy w' none:=by
 have hc:=hb.prule;simp only [m5,m7,Bool.and_eq_true,xW] at h5 h7;obtain ⟨_,d0,d1⟩:=h5;obtain ⟨⟨a0,a1⟩,x0,x1⟩:=h7;obtain ⟨q0,q1⟩:=hp.Q;obtain ⟨e0,e1⟩:=IJ p.D p.M 4 1048576 (by omega) d1 (by omega) a1;obtain ⟨f0,f1⟩:=IJ (p.D*p.M) p.X (4*1048576) 1048576 e0 e1 (by omega) x1;have HE:Hid (m8 p=decide (2*(p.D*p.M*p.X+p.M)< p.Q)):=za rfl;clear hb hp;go_enter Tryz.func79,Tryz.ntmps79;go_wp2;go_ret;exact ⟨zm HE.out.symm,gRf⟩
end
section
open Go.RowKit
theorem LX{w:World}{g o:Nat}{v:Value}(h:w.cell? ⟨g,o,none⟩=some v):g< w.heap.size:=by
 rcases Nat.lt_or_ge g w.heap.size with hlt|hge
 ·exact hlt
 ·simp [World.cell?,Array.getElem?_eq_none hge] at h
theorem zK.kept{w w':World}(h:zK w)(hg:w.grownBy w' none):zK w':=
 ⟨fun j hj=>by have:=h.1 j hj;rw [World.cell?_of_block (w:=w) (hg.block _ (LX this) (by simp))];exact this,
  fun j hj=>by have:=h.2 j hj;rw [World.cell?_of_block (w:=w) (hg.block _ (LX this) (by simp))];exact this⟩
theorem FV(p:Par)(g:Nat)(w:World)(hT:zK w)(hb:Bk w g 39 p.cells):
  Calls Tryz.prog 80 #[.pointer (some ⟨g,0,none⟩)] w fun e w'=>e= .returned (.bool (m9 p))∧w.grownBy w' none:=by
 have hc:=hb.prule;have HQ:=Rx p.Q w hT;have HP:=za (fun k=>Rx p.P (w.drewN k) (hT.drewN k));clear hb hT;cases hQ:Zu p.Q with
 |true=>
  rw [hQ] at HQ;have HQ2:=za HQ;have HE:Hid (m9 p=Zu p.P):=za (by simp [m9,hQ]);clear hQ HQ;go_enter Tryz.func80,Tryz.ntmps80;go_wp2_with fail;refine HQ2.out.mono ?_;rintro e w' ⟨rfl,k,rfl⟩;go_wp2_with fail;refine (HP.out k).mono ?_;rintro e w' ⟨rfl,k2,rfl⟩;go_wp2;go_ret;exact ⟨zm HE.out.symm,zf (World.grownBy.refl w none) _⟩
 |false=>
  rw [hQ] at HQ;have HQ2:=za HQ;have HE:Hid (m9 p=false):=za (by simp [m9,hQ]);clear hQ HQ;go_enter Tryz.func80,Tryz.ntmps80;go_wp2_with fail;refine HQ2.out.mono ?_;rintro e w' ⟨rfl,k,rfl⟩;go_wp2;go_ret;exact ⟨zm HE.out.symm,zf (World.grownBy.refl w none) _⟩
theorem GW(p:Par)(x:Int)(b:Bool)(h:isB p x=b)(w:World)(hp:p.ok)(h1:U64 x):
  Calls Tryz.prog 83 #[p.v, .int .u64 x] w fun e' w'=>e'= .returned (.bool b)∧w.grownBy w' none:=h ▸ Li p x w hp h1
theorem GR(p:Par)(g:Nat)(w:World)(hp:p.ok)(hb:Bk w g 39 p.cells):
  Calls Tryz.prog 82 #[.pointer (some ⟨g,0,none⟩)] w fun e w'=>e= .returned (.bool (m10 p))∧w.grownBy w' none:=by
 have hc:=hb.prule;have HB:=za hb;by_cases h1:p.G=1
 ·have h1':(p.G !=1)=false:=by simpa using h1
  have HE:Hid (m10 p=false):=za (by simp [m10,h1]);clear h1 hp hb;go_enter Tryz.func82,Tryz.ntmps82;go_wp2;go_ret;exact ⟨zm HE.out.symm,World.grownBy.refl w none⟩
 ·have h1':(p.G !=1)=true:=by simpa using h1
  cases hG:isB p p.G with
  |false=>
   have HI:=za (fun w=>GW p p.G _ hG w hp hp.G);have HE:Hid (m10 p=false):=za (by simp [m10,hG]);clear h1 hp hb hG;go_enter Tryz.func82,Tryz.ntmps82;go_wp2_with fail;refine (HI.out _).mono ?_;rintro e w1 ⟨rfl,hg⟩;have HG:=za hg;clear hg;go_wp2;go_ret;exact ⟨zm HE.out.symm,HG.out⟩
  |true=>
   have HI:=za (fun w=>GW p p.G _ hG w hp hp.G);by_cases h2:p.H=1
   ·have h2':(p.H !=1)=false:=by simpa using h2
    have HE:Hid (m10 p=false):=za (by simp [m10,h2]);clear h1 h2 hp hb hG;go_enter Tryz.func82,Tryz.ntmps82;go_wp2_with fail;refine (HI.out _).mono ?_;rintro e w1 ⟨rfl,hg⟩;have HG:=za hg;have hc1:=(HB.out.grown hg (by simp)).prule;clear hg;go_wp2;go_ret;exact ⟨zm HE.out.symm,HG.out⟩
   ·have h2':(p.H !=1)=true:=by simpa using h2
    have HJ:=za (fun w=>Li p p.H w hp hp.H);have HE:Hid (m10 p=isB p p.H):=za (by simp [m10,hG,h1,h2]);clear h1 h2 hp hb hG;go_enter Tryz.func82,Tryz.ntmps82;go_wp2_with fail;refine (HI.out _).mono ?_;rintro e w1 ⟨rfl,hg⟩;have HG:=za hg;have hc1:=(HB.out.grown hg (by simp)).prule;clear hg;go_wp2_with fail;refine (HJ.out _).mono ?_;rintro e w2 ⟨rfl,hg⟩;have HG2:=za (HG.out.trans hg);clear hg;go_wp2;go_ret;exact ⟨zm HE.out.symm,HG2.out⟩
def ms(p:Par):List Bool:= [m1 p,m2 p,m3 p,m4 p,m5 p,m6 p,m7 p,m8 p,m9 p,m10 p]
def fvs(g:Nat):List Value:= [.func (.func 71) #[] #[.pointer (some ⟨g,0,none⟩)], .func (.func 72) #[] #[.pointer (some ⟨g,0,none⟩)], .func (.func 74) #[] #[.pointer (some ⟨g,0,none⟩)], .func (.func 75) #[] #[.pointer (some ⟨g,0,none⟩)], .func (.func 76) #[] #[.pointer (some ⟨g,0,none⟩)], .func (.func 77) #[] #[.pointer (some ⟨g,0,none⟩)], .func (.func 78) #[] #[.pointer (some ⟨g,0,none⟩)], .func (.func 79) #[] #[.pointer (some ⟨g,0,none⟩)], .func (.func 80) #[] #[.pointer (some ⟨g,0,none⟩)], .func (.func 82) #[] #[.pointer (some ⟨g,0,none⟩)]]
theorem EZ(p:Par)(g:Nat)(w:World)(hp:p.ok)(_hT:zK w)(hb:Bk w g 39 p.cells):
  Calls Tryz.prog 85 #[.func (.func 71) #[] #[.pointer (some ⟨g,0,none⟩)]] w fun e w'=>e= .returned (.bool (!m1 p))∧w.grownBy w' none:=by
 have HM:=za (Ee p g w hp hb);clear hp _hT hb;go_enter Tryz.func85,Tryz.ntmps85;go_wp2_with fail;refine HM.out.mono ?_;rintro e w1 ⟨rfl,hg⟩;have HG:=za hg;clear hg;go_wp2;go_ret;exact ⟨rfl,HG.out⟩
theorem EY(p:Par)(g:Nat)(w:World)(_hp:p.ok)(_hT:zK w)(hb:Bk w g 39 p.cells):
  Calls Tryz.prog 85 #[.func (.func 72) #[] #[.pointer (some ⟨g,0,none⟩)]] w fun e w'=>e= .returned (.bool (!m2 p))∧w.grownBy w' none:=by
 have HM:=za (Ed p g w hb);clear _hp _hT hb;go_enter Tryz.func85,Tryz.ntmps85;go_wp2_with fail;refine HM.out.mono ?_;rintro e w1 ⟨rfl,hg⟩;have HG:=za hg;clear hg;go_wp2;go_ret;exact ⟨rfl,HG.out⟩
theorem EX(p:Par)(g:Nat)(w:World)(hp:p.ok)(_hT:zK w)(hb:Bk w g 39 p.cells)(h2:m2 p=true):
  Calls Tryz.prog 85 #[.func (.func 74) #[] #[.pointer (some ⟨g,0,none⟩)]] w fun e w'=>e= .returned (.bool (!m3 p))∧w.grownBy w' none:=by
 have HM:=za (Ec p g w hp hb h2);clear hp _hT hb h2;go_enter Tryz.func85,Tryz.ntmps85;go_wp2_with fail;refine HM.out.mono ?_;rintro e w1 ⟨rfl,hg⟩;have HG:=za hg;clear hg;go_wp2;go_ret;exact ⟨rfl,HG.out⟩
theorem EU(p:Par)(g:Nat)(w:World)(_hp:p.ok)(_hT:zK w)(hb:Bk w g 39 p.cells):
  Calls Tryz.prog 85 #[.func (.func 75) #[] #[.pointer (some ⟨g,0,none⟩)]] w fun e w'=>e= .returned (.bool (!m4 p))∧w.grownBy w' none:=by
 have HM:=za (Eb p g w hb);clear _hp _hT hb;go_enter Tryz.func85,Tryz.ntmps85;go_wp2_with fail;refine HM.out.mono ?_;rintro e w1 ⟨rfl,hg⟩;have HG:=za hg;clear hg;go_wp2;go_ret;exact ⟨rfl,HG.out⟩
theorem ET(p:Par)(g:Nat)(w:World)(_hp:p.ok)(_hT:zK w)(hb:Bk w g 39 p.cells):
  Calls Tryz.prog 85 #[.func (.func 76) #[] #[.pointer (some ⟨g,0,none⟩)]] w fun e w'=>e= .returned (.bool (!m5 p))∧w.grownBy w' none:=by
 have HM:=za (Ea p g w hb);clear _hp _hT hb;go_enter Tryz.func85,Tryz.ntmps85;go_wp2_with fail;refine HM.out.mono ?_;rintro e w1 ⟨rfl,hg⟩;have HG:=za hg;clear hg;go_wp2;go_ret;exact ⟨rfl,HG.out⟩
theorem ES(p:Par)(g:Nat)(w:World)(_hp:p.ok)(_hT:zK w)(hb:Bk w g 39 p.cells):
  Calls Tryz.prog 85 #[.func (.func 77) #[] #[.pointer (some ⟨g,0,none⟩)]] w fun e w'=>e= .returned (.bool (!m6 p))∧w.grownBy w' none:=by
 have HM:=za (FZ p g w hb);clear _hp _hT hb;go_enter Tryz.func85,Tryz.ntmps85;go_wp2_with fail;refine HM.out.mono ?_;rintro e w1 ⟨rfl,hg⟩;have HG:=za hg;clear hg;go_wp2;go_ret;exact ⟨rfl,HG.out⟩
theorem ER(p:Par)(g:Nat)(w:World)(_hp:p.ok)(_hT:zK w)(hb:Bk w g 39 p.cells):
  Calls Tryz.prog 85 #[.func (.func 78) #[] #[.pointer (some ⟨g,0,none⟩)]] w fun e w'=>e= .returned (.bool (!m7 p))∧w.grownBy w' none:=by
 have HM:=za (FY p g w hb);clear _hp _hT hb;go_enter Tryz.func85,Tryz.ntmps85;go_wp2_with fail;refine HM.out.mono ?_;rintro e w1 ⟨rfl,hg⟩;have HG:=za hg;clear hg;go_wp2;go_ret;exact ⟨rfl,HG.out⟩
theorem EQ(p:Par)(g:Nat)(w:World)(hp:p.ok)(_hT:zK w)(hb:Bk w g 39 p.cells)(h5:m5 p=true)(h7:m7 p=true):
  Calls Tryz.prog 85 #[.func (.func 79) #[] #[.pointer (some ⟨g,0,none⟩)]] w fun e w'=>e= .returned (.bool (!m8 p))∧w.grownBy w' none:=by
 have HM:=za (FX p g w hp hb h5 h7);clear hp _hT hb h5 h7;go_enter Tryz.func85,Tryz.ntmps85;go_wp2_with fail;refine HM.out.mono ?_;rintro e w1 ⟨rfl,hg⟩;have HG:=za hg;clear hg;go_wp2;go_ret;exact ⟨rfl,HG.out⟩
theorem EP(p:Par)(g:Nat)(w:World)(_hp:p.ok)(hT:zK w)(hb:Bk w g 39 p.cells):
  Calls Tryz.prog 85 #[.func (.func 80) #[] #[.pointer (some ⟨g,0,none⟩)]] w fun e w'=>e= .returned (.bool (!m9 p))∧w.grownBy w' none:=by
 have HM:=za (FV p g w hT hb);clear _hp hT hb;go_enter Tryz.func85,Tryz.ntmps85;go_wp2_with fail;refine HM.out.mono ?_;rintro e w1 ⟨rfl,hg⟩;have HG:=za hg;clear hg;go_wp2;go_ret;exact ⟨rfl,HG.out⟩
theorem Fl(p:Par)(g:Nat)(w:World)(hp:p.ok)(_hT:zK w)(hb:Bk w g 39 p.cells):
  Calls Tryz.prog 85 #[.func (.func 82) #[] #[.pointer (some ⟨g,0,none⟩)]] w fun e w'=>e= .returned (.bool (!m10 p))∧w.grownBy w' none:=by
 have HM:=za (GR p g w hp hb);clear hp _hT hb;go_enter Tryz.func85,Tryz.ntmps85;go_wp2_with fail;refine HM.out.mono ?_;rintro e w1 ⟨rfl,hg⟩;have HG:=za hg;clear hg;go_wp2;go_ret;exact ⟨rfl,HG.out⟩
theorem Gp(p:Par)(g:Nat)(w:World)(hp:p.ok)(hT:zK w)(hb:Bk w g 39 p.cells): ∀(j:Nat) (_h:j< (fvs g).length) (h':j< (ms p).length),(∀i (hi:i< j),(ms p)[i]'(by omega)=true)→
  Calls Tryz.prog 85 #[(fvs g)[j]] w fun e w'=>e= .returned (.bool (!(ms p)[j]))∧w.grownBy w' none
 |0,_,_,_=>EZ p g w hp hT hb
 |1,_,_,_=>EY p g w hp hT hb
 |2,_,_,hh=>EX p g w hp hT hb (hh 1 (by omega))
 |3,_,_,_=>EU p g w hp hT hb
 |4,_,_,_=>ET p g w hp hT hb
 |5,_,_,_=>ES p g w hp hT hb
 |6,_,_,_=>ER p g w hp hT hb
 |7,_,_,hh=>EQ p g w hp hT hb (hh 4 (by omega)) (hh 6 (by omega))
 |8,_,_,_=>EP p g w hp hT hb
 |9,_,_,_=>Fl p g w hp hT hb
 |n+10,h,_,_=>absurd h (by simp [fvs])
theorem Ob(p:Par):Va p=(ms p).all id:=by simp [Va,ms,Bool.and_assoc]
def Gy(p:Par)(w:World)(e:Ending)(w':World):Prop:= ∃n:Int,e= .returned (.int .i64 n)∧decide (0≤n)= !Va p∧w.grownBy w' none
theorem Lq(p:Par)(g ga:Nat)(t:TypeId)(w:World)(hp:p.ok)(hT:zK w)(hb:Bk w g 39 p.cells)(ha:Bk w ga t (fvs g).toArray):
  Calls Tryz.prog 141 #[.slice (some ⟨ga,0,none⟩) 10 10, .func (.func 85) #[] #[]] w (Gy p w):=by
 have HP:=za hp;have HT:=za hT;have HB:=za hb;have HA:=za ha;clear hp hT hb ha;go_enter Tryz.func141,Tryz.ntmps141;go_wp2_with fail;go_loopg [8] 10 (fun n s8 wx=> ∃j:Nat,j+n=10∧s8= .int .i64 j∧Hid (w.grownBy wx none∧ ∀i (_:i< j) (h:i< (ms p).length),(ms p)[i]=true))
 case atStart=>exact ⟨0,by omega,rfl,za ⟨World.grownBy.refl w none,fun i hi=>absurd hi (by omega)⟩⟩
 case round=>
  obtain ⟨j,hj,rfl,HX⟩:=hrel;cases gk with
  |zero=>
   obtain rfl:j=10:=by omega
   have HE:Hid (Gy p w (.returned (.int .i64 (-1))) wr):=za ⟨-1,rfl,by
    have:Va p=true:=by
     rw [Ob,List.all_eq_true];intro b hb;obtain ⟨i,hi,rfl⟩:=List.getElem_of_mem hb;exact HX.out.2 i (by simp [ms] at hi;omega) hi
    rw [this];rfl,HX.out.1⟩
   clear HX;go_wp2;go_ret;exact HE.out
  |succ k=>
   have hjn:(j:Int)< 10:=by omega
   have hj1:j< (fvs g).length:=by simp [fvs];omega
   have hj2:j< (ms p).length:=by simp [ms];omega
   have hcell:wr.cell? ⟨ga,j,none⟩=some (fvs g)[j]:=by
    rw [(HA.out.grown HX.out.1 (by simp)).cell j,List.getElem?_toArray];exact List.getElem?_eq_getElem hj1
   have HC:=za (Gp p g wr HP.out (HT.out.kept HX.out.1) (HB.out.grown HX.out.1 (by simp)) j hj1 hj2 (fun i hi=>HX.out.2 i hi (by omega)));have HV:Hid ((ms p)[j]=true∨(ms p)[j]=false):=za (by cases (ms p)[j]<;>simp);have HR:Hid ((ms p)[j]=true→ ∀i (_:i< j+1) (h:i< (ms p).length),(ms p)[i]=true):=za (fun h i hi hl=>by
    rcases Nat.lt_or_ge i j with h1|h1
    ·exact HX.out.2 i h1 hl
    ·obtain rfl:i=j:=by omega
     exact h)
   have HN:Hid ((ms p)[j]=false→Va p=false):=za (fun h=>by
    rw [Ob,Bool.eq_false_iff];intro hall;rw [List.all_eq_true] at hall
    have:=hall _ (List.getElem_mem hj2)
    simp [h] at this)
   have HG:=za HX.out.1;generalize (fvs g)[j]=fv at *;generalize (ms p)[j]=b at *;clear HX hj1 hj2;rcases HV.out with rfl|rfl
   ·go_wp2_with fail;refine HC.out.mono ?_;rintro e w1 ⟨rfl,hg⟩;have HG1:=za (HG.out.trans hg);clear hg;go_wp2;go_roundg k
    case measure=>omega
    case rel=>exact ⟨j+1,by omega,by go_num,za ⟨HG1.out,HR.out (by simp)⟩⟩
   ·have HE:Hid (∀w1,w.grownBy w1 none→Gy p w (.returned (.int .i64 j)) w1):=za (fun w1 hg=>⟨j,rfl,by rw [HN.out rfl];simp,hg⟩);go_wp2_with fail;refine HC.out.mono ?_;rintro e w1 ⟨rfl,hg⟩;have HG1:=za (HG.out.trans hg);clear hg;go_wp2;go_ret;exact HE.out _ HG1.out
theorem Qk(p:Par)(g ga:Nat)(t:TypeId)(w:World)(hp:p.ok)(hT:zK w)(hb:Bk w g 39 p.cells)(ha:Bk w ga t (fvs g).toArray):
  Calls Tryz.prog 84 #[.slice (some ⟨ga,0,none⟩) 10 10, .func (.func 85) #[] #[]] w fun e w'=>e= .returned (.bool (!Va p))∧w.grownBy w' none:=by
 have HI:=za (Lq p g ga t w hp hT hb ha);clear hp hT hb ha;go_enter Tryz.func84,Tryz.ntmps84;go_wp2_with fail;refine HI.out.mono ?_;rintro e w1 ⟨n,rfl,hn,hg⟩;have HN:=za hn;have HG:=za hg;clear hn hg;go_wp2;go_ret;exact ⟨zm HN.out,HG.out⟩
theorem Pi(p:Par)(w:World)(hp:p.ok)(hT:zK w):
  Calls Tryz.prog 36 #[p.v] w fun e w'=>e= .returned (.bool (Va p))∧w.grownBy w' none:=by
 have hg1:w.grownBy (w.alloc (Obj.cells p.cells 39)) none:=gAl w _ none;have hg2:=gAl (w.alloc (Obj.cells p.cells 39)) (Obj.cells (fvs w.heap.size).toArray 26) none;have HC:=za (Qk p w.heap.size (w.heap.size+1) 26 ((w.alloc (Obj.cells p.cells 39)).alloc (Obj.cells (fvs w.heap.size).toArray 26)) hp (hT.kept (hg1.trans hg2)) ((Bk.new w _ _).alloc _)
  (by have:=Bk.new (w.alloc (Obj.cells p.cells 39)) 26 (fvs w.heap.size).toArray;rwa [World.size_alloc] at this))
 have HGR:=za (hg1.trans hg2);clear hp hT hg1 hg2;unfold fvs at HC HGR;go_enter Tryz.func36,Tryz.ntmps36;go_wp2_with fail;refine HC.out.mono ?_;rintro e w1 ⟨rfl,hg⟩;have HG:=za (HGR.out.trans hg);clear hg;go_wp2;go_ret;exact ⟨zm (by simp),HG.out⟩
end
section
open Go.RowKit
theorem Lb{m:Int}(h:zY m=true):0< m∧m≤2305843009213693952:=by simpa [zY] using h
end
section
open Go.RowKit
theorem RX{a m x:Int}(hm:0< m)(h:Cg m (a*x) 1):yd a m:=
 ⟨x%m,Int.emod_nonneg _ (by omega),Int.emod_lt_of_pos _ hm,((Cg.mod m x).mul_left a).trans h⟩
theorem UL{a b m:Int}(hm:0< m)(h:yd a m)(k:yd b m):yd (a*b) m:=by
 obtain ⟨x,_,_,hx⟩:=h;obtain ⟨y,_,_,hy⟩:=k;refine RX hm (x:=x*y) ((Cg.of_eq ?_).trans (hx.mul hy));rw [Int.mul_assoc,Int.mul_assoc, ←Int.mul_assoc b,Int.mul_comm b x,Int.mul_assoc]
theorem yR{a q k x:Int}(hq:0< q)(h:a*x=k*q+1):yd a q:=RX hq (x:=x) (Cg.of_dvd ⟨k,by rw [h,Int.mul_comm];omega⟩)
theorem Nn{q:Int}(hq:0< q)(h:q%2≠0):yd 2 q:=yR hq (k:=1) (x:=(q+1) / 2) (by omega)
theorem RV{q:Int}(hq:0< q)(h:q%3≠0):yd 3 q:=by
 have h3:q%3=1∨q%3=2:=by omega
 rcases h3 with h3|h3
 ·exact yR hq (k:=2) (x:=(2*q+1) / 3) (by omega)
 ·exact yR hq (k:=1) (x:=(q+1) / 3) (by omega)
theorem Pm{q:Int}(hq:0< q)(h:q%5≠0):yd 5 q:=by
 have h5:q%5=1∨q%5=2∨q%5=3∨q%5=4:=by omega
 rcases h5 with h5|h5|h5|h5
 ·exact yR hq (k:=4) (x:=(4*q+1) / 5) (by omega)
 ·exact yR hq (k:=2) (x:=(2*q+1) / 5) (by omega)
 ·exact yR hq (k:=3) (x:=(3*q+1) / 5) (by omega)
 ·exact yR hq (k:=1) (x:=(q+1) / 5) (by omega)
def Df(q:Int)(n:Int):Prop:= ∀d,1≤d→d< n→yd d q
theorem QY{q:Int}(h:Zu q=true):(q%2=0→q=2)∧(q%3=0→q=3∨q%2=0)∧(q%5=0→q=5∨q%2=0∨q%3=0):=by
 unfold Zu at h;split at h
 ·cases h
 ·unfold yH at h;refine ⟨fun h2=> ?_,fun h3=> ?_,fun h5=> ?_⟩
  ·simp only [goB,h2,if_true] at h;simpa using h
  ·by_cases h2:q%2=0
   ·exact .inr h2
   ·simp only [goB,h2,if_false,h3,if_true] at h;left;split at h
    ·simpa using h
    ·cases h
  ·by_cases h2:q%2=0
   ·exact .inr (.inl h2)
   ·by_cases h3:q%3=0
    ·exact .inr (.inr h3)
    ·simp only [goB,h2,if_false,h3,h5,if_true] at h;left;split at h
     ·split at h
      ·simpa using h
      ·cases h
     ·cases h
theorem zD{p:Par}(h:Va p=true):zY p.Q=true∧zY p.P=true∧Df p.Q p.N∧4≤p.N∧p.N≤7∧p.N< p.Q∧1≤p.T∧p.T≤2∧3*p.T+1≤p.N∧Rp p=true∧1≤p.K∧1≤p.D:=by
 simp only [Va,m1,m2,m3,m5,m9,Bool.and_eq_true,xW,decide_eq_true_eq] at h;obtain ⟨⟨⟨⟨⟨⟨⟨⟨⟨a1,a2⟩,a3⟩,_⟩,a5⟩,_⟩,_⟩,_⟩,a9⟩,_⟩:=h;obtain ⟨⟨⟨p1,p2⟩,q1⟩,pq⟩:=a1;obtain ⟨t1,t2⟩:=a2;obtain ⟨⟨n1,n2⟩,n3⟩:=a3;obtain ⟨⟨k1,k2⟩,d1,d2⟩:=a5;obtain ⟨hq,hp⟩:=a9;have hQ:p.Q≤2305843009213693952:=by
  unfold Zu at hq;split at hq
  ·cases hq
  ·omega
 obtain ⟨s2,s3,s5⟩:=QY hq;have hq0:0< p.Q:=by omega
 have i2:yd 2 p.Q:=Nn hq0 fun e=>by have:=s2 e;omega
 have i3:yd 3 p.Q:=RV hq0 fun e=>by
  rcases s3 e with e|e
  ·omega
  ·have:=s2 e;omega
 have i1:yd 1 p.Q:=yR hq0 (k:=0) (x:=1) (by omega);refine ⟨by simp [zY];omega,by simp [zY];omega,fun d e1 e2=> ?_,by omega,n2,n3,t1,t2,n1,by simp [Rp];omega,k1,d1⟩;have hd:d=1∨d=2∨d=3∨d=4∨d=5∨d=6:=by omega
 rcases hd with rfl|rfl|rfl|rfl|rfl|rfl
 ·exact i1
 ·exact i2
 ·exact i3
 ·exact UL hq0 i2 i2
 ·refine Pm hq0 fun e=> ?_
  rcases s5 e with e|e|e
  ·omega
  ·have:=s2 e;omega
  ·rcases s3 e with e|e
   ·omega
   ·have:=s2 e;omega
 ·exact UL hq0 i2 i3
theorem Tu{q:Int}(hq:zY q=true):0< q:=by simp [zY] at hq;exact hq.1
end
section
open Go.RowKit
end
section
open Go.RowKit
end
section
end
section
end
section
open Go Go.RowKit
section
variable {α β γ:Type} {E:Enc α} {F:Enc β} {G:Enc γ} {base:Nat} {e f g:TypeId} {Z:Nat→Prop} {w w':World} {v u t v' u' t':Value} {xs xs':List α} {ys ys':List β} {zs zs':List γ}
end
end
section
open Go.RowKit
theorem Pn(q:Int)(y:Int)(c:List Int)(x:Int):zR q (y::c) x=ZW (yg (zR q c x) x q) y q:=by simp [zR,Yv]
def Zx(p:Par)(F R:List (List Int))(i:Int):List (Int×Int):=(List.range F.length).map fun s=>(zR p.Q (F[s]?.getD []) i,zR p.Q (R[s]?.getD []) i)
theorem RK{p:Par}(h:Va p=true):1≤p.K∧p.K≤2∧1≤p.D∧p.D≤4∧1≤p.M∧p.M≤1048576∧2*p.M< p.Q∧1≤p.X∧p.X≤1048576∧p.Q≤2305843009213693952:=by
 have hh:=h;simp only [Va,m5,m7,m8,m9,Bool.and_eq_true,xW,decide_eq_true_eq] at hh;obtain ⟨⟨⟨⟨⟨⟨_,a5⟩,_⟩,a7⟩,a8⟩,a9⟩,_⟩:=hh;obtain ⟨⟨k1,k2⟩,d1,d2⟩:=a5;obtain ⟨⟨M1,M2⟩,x1,x2⟩:=a7;have hQ:p.Q≤2305843009213693952:=by
  have hq:=a9.1;unfold Zu at hq;split at hq
  ·cases hq
  ·omega
 have h1:0≤p.D*p.M*p.X:=Int.mul_nonneg (Int.mul_nonneg (by omega) (by omega)) (by omega);exact ⟨k1,k2,d1,d2,M1,M2,by omega,x1,x2,hQ⟩
theorem QV{p:Par}(h:Va p=true):zX p=((p.K.toNat*(p.D.toNat+1):Nat):Int):=by
 obtain ⟨k1,k2,d1,d2,_⟩:=RK h;have hk:p.K=1∨p.K=2:=by omega
 have hd:p.D=1∨p.D=2∨p.D=3∨p.D=4:=by omega
 unfold zX;rcases hk with hk|hk<;>rcases hd with hd|hd|hd|hd<;>rw [hk,hd]<;>decide+kernel
end
section
open Go Go.RowKit
end
end Go.Proofs.YtkdfjkdphdfclaaGreatDoor
