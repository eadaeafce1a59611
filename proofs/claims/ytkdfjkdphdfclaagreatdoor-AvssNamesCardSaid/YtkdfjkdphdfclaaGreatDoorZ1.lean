/- Proves for the statement AvssNamesCardSaid, under no other condition than the statement's own, that the card avssNames holds of the program. Part 1. -/
import Derived.Test.YtkdfjkdphdfclaaGreatDoorProg
import Derived.WalkKit
import Derived.WalkSpells
import Derived.WalkLawsBesides
import Derived.Handy
import Derived.Deep.QuietTactic
import Derived.BigQuiet
import Derived.Lib.Hide
import Derived.Lib.Mul64
import Derived.Laws.Bits64b
import Derived.Below
import Derived.Deep.Draws
import Derived.Laws.Rows
import Derived.Laws.OwnMore
import Derived.Maps.AppendAt
import Derived.OwnWalk
import Derived.Deep.AppendLies
import Derived.RangeFuncOwn
import Derived.RegionTactic
import Derived.Lib.Strings
import Derived.Lib.Slices
import Derived.Lib.Small
import Derived.Lib.Walk
import Derived.Lib.BitFns
import Derived.Deep.Light
import Derived.Deep.CutBlock
import Derived.Deep.DeepCutAuto
import Derived.KernelRfl
import Derived.WalkSmall
import Derived.Deep.LoopGhost
import Derived.Outline
set_option maxRecDepth 100000
set_option maxHeartbeats 16000000
set_option linter.unusedVariables false
set_option linter.unusedSimpArgs false
namespace Go.Proofs.YtkdfjkdphdfclaaGreatDoor
section
open Go.RowKit
theorem Rv{P:Program}{f:FuncId}{args:Array Value}{w:World}{a n:Nat}{v:Value}
  (h:Calls P f args (w.drewN (a+n)) fun e w'=>e= .returned v∧ ∃m,w'=(w.drewN (a+n)).drewN m):
  Calls P f args (w.drewN (a+n)) fun e w''=>e= .returned v∧ ∃m,w''=w.drewN (a+m):=
 h.mono fun _ _ ⟨he,m,hm⟩=>⟨he,n+m,by rw [hm,World.drewN_drewN,Nat.add_assoc]⟩
def U64(a:Int):Prop:=0≤a∧a< 18446744073709551616
namespace Mul64
theorem maskN(a:Nat)(ha:a< 18446744073709551616):bits .and .u64 (a:Int) 4294967295=((a%4294967296:Nat):Int):=by
 have h:=bits_and_u64_nat a 4294967295 ha (by omega);have e:a &&& 4294967295=a%4294967296:=Nat.and_two_pow_sub_one_eq_mod a 32;rw [e] at h;exact h
theorem divN(a:Nat):(a:Int) / 4294967296=((a / 4294967296:Nat):Int):=by omega
theorem mulN(a b:Nat):(a:Int)*(b:Int)=((a*b:Nat):Int):=(Int.natCast_mul a b).symm
theorem addN(a b:Nat):(a:Int)+(b:Int)=((a+b:Nat):Int):=(Int.natCast_add a b).symm
theorem wrapN(a:Nat)(ha:a< 18446744073709551616):IntKind.u64.wrap (a:Int)=(a:Int):=by rw [IntKind.wrap_u64];omega
theorem wrapM(a:Nat):IntKind.u64.wrap (a:Int)=((a%18446744073709551616:Nat):Int):=by rw [IntKind.wrap_u64];omega
end Mul64
end
section
open Go.RowKit
def Rd(w:World)(A:Option Addr)(xs:List Value):Prop:=
 xs≠ []→ ∃g o,A=some ⟨g,o,none⟩∧g< w.heap.size∧ ∀j u,xs[j]? =some u→w.cell? ⟨g,o+j,none⟩=some u
theorem Rd.nil(w:World)(A:Option Addr):Rd w A []:=fun h=>absurd rfl h
theorem Rd.keep{w w':World}{A:Option Addr}{xs:List Value}(h:Rd w A xs)(hs:w.heap.size≤w'.heap.size)(hk: ∀g o,A=some ⟨g,o,none⟩→g< w.heap.size→w'.heap[g]? =w.heap[g]?):Rd w' A xs:=fun hn=>by
 obtain ⟨g,o,e,hg,hc⟩:=h hn;refine ⟨g,o,e,by omega,fun j u hu=> ?_⟩;rw [World.cell?_of_block (w:=w) (hk g o e hg)];exact hc j u hu
theorem Rd.grown{w w':World}{row:Option Nat}{A:Option Addr}{xs:List Value}(h:Rd w A xs)(hg:w.grownBy w' row)(hr: ∀g o,A=some ⟨g,o,none⟩→some g≠row):Rd w' A xs:=
 h.keep hg.size fun g o e hlt=>hg.block g hlt (hr g o e)
theorem Rd.own{w:World}{base n c:Nat}{e:TypeId}{A:Option Addr}{xs:List Value}(h:w.ownsRow base e 1 (.slice A n c) n xs):Rd w A xs:=fun hn=>by
 have hl:=h.1;rcases h.2 with ⟨_,h0⟩|⟨g,cap,cur,hv,_,hh,_,_,_,hx⟩
 ·subst h0;exact absurd (List.eq_nil_of_length_eq_zero (by simpa using hl)) hn
 ·have hA:A=some ⟨g,0,none⟩:=by injection hv
  subst hA;refine ⟨g,0,rfl, ?_,fun j u hu=> ?_⟩
  ·rcases Nat.lt_or_ge g w.heap.size with hlt|hge
   ·exact hlt
   ·rw [Array.getElem?_eq_none hge] at hh;cases hh
  ·rw [Nat.zero_add,cell_of_row w g j cur e (0,0) hh, ←Array.getElem?_toList];rw [←hx,List.getElem?_take] at hu;split at hu
   ·exact hu
   ·cases hu
def Bk(w:World)(g:Nat)(t:TypeId)(cs:Array Value):Prop:=w.heap[g]? =some (.cells cs t (0,0))
theorem Bk.lt{w:World}{g:Nat}{t:TypeId}{cs:Array Value}(h:Bk w g t cs):g< w.heap.size:=by
 rcases Nat.lt_or_ge g w.heap.size with hlt|hge
 ·exact hlt
 ·unfold Bk at h;rw [Array.getElem?_eq_none hge] at h;cases h
theorem Bk.cell{w:World}{g:Nat}{t:TypeId}{cs:Array Value}(h:Bk w g t cs)(i:Nat):w.cell? ⟨g,i,none⟩=cs[i]? :=cell_of_row w g i cs t (0,0) h
theorem Bk.free{w:World}{g:Nat}{t:TypeId}{cs:Array Value}(h:Bk w g t cs)(i:Nat):w.frozen? ⟨g,i,none⟩=false:=by
 unfold Bk at h;simp [World.frozen?,h]
theorem Bk.new(w:World)(t:TypeId)(cs:Array Value):Bk (w.alloc (.cells cs t)) w.heap.size t cs:=heap_alloc_new w _
theorem Bk.alloc{w:World}{g:Nat}{t:TypeId}{cs:Array Value}(h:Bk w g t cs)(o:Obj):Bk (w.alloc o) g t cs:=(Below.heap_alloc w o g h.lt).trans h
theorem Bk.set{w:World}{g:Nat}{t:TypeId}{cs:Array Value}(h:Bk w g t cs)(i:Nat)(u:Value):Bk (w.setCell ⟨g,i,none⟩ u) g t (cs.setIfInBounds i u):=by
 unfold Bk at h ⊢;simp [World.setCell,Array.getElem?_modify,h]
theorem Bk.far{w:World}{g:Nat}{t:TypeId}{cs:Array Value}(h:Bk w g t cs){p:Addr}(hp:g≠p.block)(u:Value):Bk (w.setCell p u) g t cs:=(Below.heap_setCell w p u g hp).trans h
theorem Bk.drewN{w:World}{g:Nat}{t:TypeId}{cs:Array Value}(h:Bk w g t cs)(n:Nat):Bk (w.drewN n) g t cs:=h
theorem Bk.grown{w w':World}{g:Nat}{t:TypeId}{cs:Array Value}{row:Option Nat}(h:Bk w g t cs)(hb:w.grownBy w' row)(hg:some g≠row):Bk w' g t cs:=(hb.block g h.lt hg).trans h
theorem zf{w w':World}{row:Option Nat}(h:w.grownBy w' row)(n:Nat):w.grownBy (w'.drewN n) row:=⟨h.os,h.tape,h.output,h.size,h.block⟩
theorem yM{w w':World}{g:Nat}(h:w.grownBy w' (some g))(i:Nat)(u:Value):w.grownBy (w'.setCell ⟨g,i,none⟩ u) (some g):=
 ⟨h.os,h.tape,h.output,by simpa [World.setCell] using h.size,fun k hk hne=>(Below.heap_setCell w' ⟨g,i,none⟩ u k (fun e=>hne (by rw [e]))).trans (h.block k hk hne)⟩
theorem Bk.of_eq{w:World}{g:Nat}{t:TypeId}{cs cs':Array Value}(h:Bk w g t cs)(e:cs=cs'):Bk w g t cs':=e ▸ h
def nums(l:List Int):List Value:=l.map (Value.int .u64)
theorem PF:(Tryz.prog.info? 22).map (fun i=>(i.zero,i.size,i.bytes))=some (some (.int .u64 0),1,8):=by kernel_rfl
theorem Jy(l:List Int): ∀u∈nums l,u.oneCell'=true:=by
 intro u hu;obtain ⟨x,_,rfl⟩:=List.mem_map.1 hu;rfl
theorem Rd.addr{w:World}{x:Addr}{xs:List Value}(h:Rd w (some x) xs): ∀j u,xs[j]? =some u→w.cell? (x.add j)=some u:=by
 intro j u hu;obtain ⟨g,o,e,hg,hc⟩:=h (by intro h0;rw [h0] at hu;simp at hu);simp only [Option.some.injEq] at e;subst e;have hj:=hc j u hu;unfold Addr.add;split
 ·rename_i h0
  have:j=0:=by simpa using h0
  subst this;exact hj
 ·exact hj
theorem zB{w w0 w1:World}{row:Option Nat}(h:w.grownBy w0 none)(k:w0.grownBy w1 row)(hr: ∀g,row=some g→w.heap.size≤g):w.grownBy w1 none:=
 ⟨k.os.trans h.os,k.tape.trans h.tape,k.output.trans h.output,Nat.le_trans h.size k.size,fun i hi _=>(k.block i (Nat.lt_of_lt_of_le hi h.size) (fun e=>by have:=hr i e.symm;omega)).trans (h.block i hi (by simp))⟩
theorem zy{w w':World}(h:w.grownBy w' none):Below w.heap.size w w':=⟨h.os,h.tape,h.output,h.size,fun k hk=>h.block k hk (by simp)⟩
end
section
open Go.RowKit
def I64(a:Int):Prop:= -9223372036854775808≤a∧a≤9223372036854775807
structure Enc (α:Type) where
 size:Nat
 pos:0< size
 rep:(Nat→Prop)→World→List Value→α→Prop
 len: ∀{X w cs x},rep X w cs x→cs.length=size
 ones: ∀{X w cs x},rep X w cs x→ ∀u∈cs,u.oneCell'=true
 keep: ∀{X w w' row cs x},rep X w cs x→w.grownBy w' row→(∀g,X g→some g≠row)→rep X w' cs x
 more: ∀{X Y w cs x},rep X w cs x→(∀g,g< w.heap.size→X g→Y g)→rep Y w cs x
 keepc: ∀{X w w' row cs x},rep X w cs x→w.grownBy w' row→(∀r,row=some r→ ∃o:Obj,w.heap[r]? =some o∧o.isCells=false)→rep X w' cs x
def ze:Enc Int where
 size:=1
 pos:=by decide
 rep:=fun _ _ cs n=>cs= [.int .u64 n]∧U64 n
 len:=fun h=>by rw [h.1];rfl
 ones:=fun h u hu=>by rw [h.1] at hu;simp at hu;subst hu;rfl
 keep:=fun h _ _=>h
 more:=fun h _=>h
 keepc:=fun h _ _=>h
def zo:Enc (Int×Int) where
 size:=2
 pos:=by decide
 rep:=fun _ _ cs x=>cs= [.int .u64 x.1, .int .u64 x.2]∧U64 x.1∧U64 x.2
 len:=fun h=>by rw [h.1];rfl
 ones:=fun h u hu=>by rw [h.1] at hu;simp at hu;rcases hu with rfl|rfl<;>rfl
 keep:=fun h _ _=>h
 more:=fun h _=>h
 keepc:=fun h _ _=>h
def Sl{α:Type}(E:Enc α)(X:Nat→Prop)(w:World)(v:Value)(xs:List α):Prop:=
 ∃A c,v= .slice A xs.length c∧xs.length≤c∧c≤9223372036854775807∧
  (xs≠ []→ ∃g o,A=some ⟨g,o,none⟩∧g< w.heap.size∧X g∧
   ∀i (h:i< xs.length), ∃cs,E.rep X w cs xs[i]∧ ∀j u,cs[j]? =some u→w.cell? ⟨g,o+i*E.size+j,none⟩=some u)
section
variable {α:Type} {E:Enc α} {X Y:Nat→Prop} {w w':World} {v:Value} {xs:List α}
theorem Sl.nil(E:Enc α)(X:Nat→Prop)(w:World):Sl E X w (.slice none 0 0) []:=⟨none,0,rfl,Nat.le_refl _,by omega,fun h=>absurd rfl h⟩
theorem Sl.keep(h:Sl E X w v xs){row:Option Nat}(hg:w.grownBy w' row)(hX: ∀g,X g→some g≠row):Sl E X w' v xs:=by
 obtain ⟨A,c,e,h1,h2,h3⟩:=h;refine ⟨A,c,e,h1,h2,fun hn=> ?_⟩;obtain ⟨g,o,eA,hgl,hXg,hc⟩:=h3 hn;refine ⟨g,o,eA,Nat.lt_of_lt_of_le hgl hg.size,hXg,fun i hi=> ?_⟩;obtain ⟨cs,hr,hcell⟩:=hc i hi;exact ⟨cs,E.keep hr hg hX,fun j u hu=>by rw [World.cell?_of_block (w:=w) (hg.block g hgl (hX g hXg))];exact hcell j u hu⟩
theorem XG{g o:Nat}{u:Value}{row:Option Nat}(hc:w.cell? ⟨g,o,none⟩=some u)(hr: ∀r,row=some r→ ∃o:Obj,w.heap[r]? =some o∧o.isCells=false):some g≠row:=fun e=>by
 obtain ⟨ob,ho,hn⟩:=hr g e.symm;unfold World.cell? at hc;simp only [ho] at hc;cases ob with
 |cells=>cases hn
 |_=>simp at hc
theorem Sl.keepc(h:Sl E X w v xs){row:Option Nat}(hg:w.grownBy w' row)(hr: ∀r,row=some r→ ∃o:Obj,w.heap[r]? =some o∧o.isCells=false):Sl E X w' v xs:=by
 obtain ⟨A,c,e,h1,h2,h3⟩:=h;refine ⟨A,c,e,h1,h2,fun hn=> ?_⟩;obtain ⟨g,o,eA,hgl,hXg,hc⟩:=h3 hn;have hpos:0< xs.length:=List.length_pos_iff.2 hn;obtain ⟨cs0,hr0,hc0⟩:=hc 0 hpos;have hl0:=E.len hr0;have hne:some g≠row:=XG (hc0 0 _ (List.getElem?_eq_getElem (by rw [hl0];exact E.pos))) hr;refine ⟨g,o,eA,Nat.lt_of_lt_of_le hgl hg.size,hXg,fun i hi=> ?_⟩;obtain ⟨cs,hrp,hcell⟩:=hc i hi;exact ⟨cs,E.keepc hrp hg hr,fun j u hu=>by rw [World.cell?_of_block (w:=w) (hg.block g hgl hne)];exact hcell j u hu⟩
theorem Sl.kept(h:Sl E X w v xs)(hg:w.grownBy w' none):Sl E X w' v xs:=h.keep hg (by simp)
theorem Sl.more(h:Sl E X w v xs)(hX: ∀g,g< w.heap.size→X g→Y g):Sl E Y w v xs:=by
 obtain ⟨A,c,e,h1,h2,h3⟩:=h;refine ⟨A,c,e,h1,h2,fun hn=> ?_⟩;obtain ⟨g,o,eA,hgl,hXg,hc⟩:=h3 hn;refine ⟨g,o,eA,hgl,hX g hgl hXg,fun i hi=> ?_⟩;obtain ⟨cs,hr,hcell⟩:=hc i hi;exact ⟨cs,E.more hr hX,hcell⟩
theorem Sl.form(h:Sl E X w v xs): ∃A c,v= .slice A xs.length c∧xs.length≤c∧c≤9223372036854775807:=by
 obtain ⟨A,c,e,h1,h2,_⟩:=h;exact ⟨A,c,e,h1,h2⟩
theorem Sl.bound(h:Sl E X w v xs):xs.length≤9223372036854775807:=by
 obtain ⟨A,c,e,h1,h2,_⟩:=h;omega
theorem Sl.at(h:Sl E X w v xs){k:Nat}(hk:k< xs.length): ∃g o c cs,v= .slice (some ⟨g,o,none⟩) xs.length c∧g< w.heap.size∧X g∧E.rep X w cs xs[k]∧ ∀j u,cs[j]? =some u→w.cell? ⟨g,o+k*E.size+j,none⟩=some u:=by
 obtain ⟨A,c,e,h1,h2,h3⟩:=h;obtain ⟨g,o,rfl,hgl,hXg,hc⟩:=h3 (by intro h0;rw [h0] at hk;exact absurd hk (by simp));obtain ⟨cs,hr,hcell⟩:=hc k hk;exact ⟨g,o,c,cs,e,hgl,hXg,hr,hcell⟩
end
theorem Sl.atU{X:Nat→Prop}{w:World}{v:Value}{xs:List Int}(h:Sl ze X w v xs){k:Nat}(hk:k< xs.length):
  ∃g o c,v= .slice (some ⟨g,o,none⟩) xs.length c∧g< w.heap.size∧X g∧w.cell? ⟨g,o+k,none⟩=some (.int .u64 xs[k])∧U64 xs[k]:=by
 obtain ⟨g,o,c,cs,e,hg,hX,⟨rfl,hu⟩,hc⟩:=h.at hk;have h0:=hc 0 _ rfl;rw [show ze.size=1 from rfl,Nat.mul_one] at h0;exact ⟨g,o,c,e,hg,hX,h0,hu⟩
theorem Sl.atP{X:Nat→Prop}{w:World}{v:Value}{xs:List (Int×Int)}(h:Sl zo X w v xs){k:Nat}(hk:k< xs.length):
  ∃g o c,v= .slice (some ⟨g,o,none⟩) xs.length c∧g< w.heap.size∧X g∧w.cell? ⟨g,o+k*2,none⟩=some (.int .u64 xs[k].1)∧w.cell? ⟨g,o+k*2+1,none⟩=some (.int .u64 xs[k].2)∧U64 xs[k].1∧U64 xs[k].2:=by
 obtain ⟨g,o,c,cs,e,hg,hX,⟨rfl,hu⟩,hc⟩:=h.at hk;exact ⟨g,o,c,e,hg,hX,hc 0 _ rfl,hc 1 _ rfl,hu⟩
def zh{α:Type}(E:Enc α):Enc (List α) where
 size:=1
 pos:=by decide
 rep:=fun X w cs xs=> ∃v,cs= [v]∧Sl E X w v xs
 len:=fun h=>by obtain ⟨v,rfl,_⟩:=h;rfl
 ones:=fun h u hu=>by
  obtain ⟨v,rfl,A,c,rfl,_⟩:=h;simp at hu;subst hu;rfl
 keep:=fun h hg hX=>by obtain ⟨v,e,h⟩:=h;exact ⟨v,e,h.keep hg hX⟩
 more:=fun h hX=>by obtain ⟨v,e,h⟩:=h;exact ⟨v,e,h.more hX⟩
 keepc:=fun h hg hr=>by obtain ⟨v,e,h⟩:=h;exact ⟨v,e,h.keepc hg hr⟩
theorem Sl.atS{α:Type}{E:Enc α}{X:Nat→Prop}{w:World}{v:Value}{xs:List (List α)}(h:Sl (zh E) X w v xs){k:Nat}(hk:k< xs.length):
  ∃g o c u,v= .slice (some ⟨g,o,none⟩) xs.length c∧g< w.heap.size∧X g∧w.cell? ⟨g,o+k,none⟩=some u∧Sl E X w u xs[k]:=by
 obtain ⟨g,o,c,cs,e,hg,hX,⟨u,rfl,hu⟩,hc⟩:=h.at hk;have h0:=hc 0 _ rfl;rw [show (zh E).size=1 from rfl,Nat.mul_one] at h0;exact ⟨g,o,c,u,e,hg,hX,h0,hu⟩
theorem XA{css:List (List Value)}{m:Nat}(hl: ∀i (h:i< css.length),css[i].length=m): ∀{i:Nat} (hi:i< css.length) {j:Nat} {u:Value},css[i][j]? =some u→css.flatten[i*m+j]? =some u:=by
 induction css with
 |nil=>intro i hi;exact absurd hi (by simp)
 |cons c css ih=>
  intro i hi j u hu;have hc:c.length=m:=hl 0 (by simp);cases i with
  |zero=>
   simp only [List.getElem_cons_zero] at hu;have hj:j< c.length:=(List.getElem?_eq_some_iff.1 hu).1;rw [List.flatten_cons,Nat.zero_mul,Nat.zero_add,List.getElem?_append_left hj];exact hu
  |succ i=>
   simp only [List.getElem_cons_succ] at hu;have h:=ih (fun i h=>hl (i+1) (by simpa using h)) (by simpa using hi) hu;rw [List.flatten_cons,List.getElem?_append_right (by rw [hc,Nat.add_mul];omega),hc];rw [show (i+1)*m+j - m=i*m+j by rw [Nat.add_mul];omega];exact h
def Acc{α:Type}(E:Enc α)(base:Nat)(e:TypeId)(X:Nat→Prop)(w:World)(v:Value)(xs:List α):Prop:=
 (∀g,v.ownBlock=some g→X g)∧ ∃css:List (List Value),css.length=xs.length∧(∀i (h:i< xs.length) (h':i< css.length),E.rep (fun g=>X g∧some g≠v.ownBlock) w css[i] xs[i])∧w.ownsRow base e E.size v xs.length css.flatten
section
variable {α:Type} {E:Enc α} {base:Nat} {e:TypeId} {X Y:Nat→Prop} {w w':World} {v:Value} {xs:List α}
theorem Acc.nil(E:Enc α)(base:Nat)(e:TypeId)(X:Nat→Prop)(w:World):Acc E base e X w (.slice none 0 0) []:=⟨by simp [Value.ownBlock], [],rfl,fun i h=>absurd h (by simp),World.ownsRow_nil _ _ _ _⟩
theorem Acc.keep(h:Acc E base e X w v xs){row:Option Nat}(hg:w.grownBy w' row)(hX: ∀g,X g→some g≠row):Acc E base e X w' v xs:=by
 obtain ⟨hb,css,h1,h2,h3⟩:=h;refine ⟨hb,css,h1,fun i hi hi'=>E.keep (h2 i hi hi') hg fun g hg=>hX g hg.1,h3.kept hg ?_⟩;rcases hv:v.ownBlock with _|g
 ·exact .inl rfl
 ·exact .inr (hX g (hb g hv))
theorem Acc.keepc(h:Acc E base e X w v xs){row:Option Nat}(hg:w.grownBy w' row)(hr: ∀r,row=some r→ ∃o:Obj,w.heap[r]? =some o∧o.isCells=false):Acc E base e X w' v xs:=by
 obtain ⟨hb,css,h1,h2,h3⟩:=h;refine ⟨hb,css,h1,fun i hi hi'=>E.keepc (h2 i hi hi') hg hr,h3.kept hg ?_⟩;rcases h3.2 with ⟨rfl,_⟩|⟨g,cap,cur,rfl,_,hh,_⟩
 ·exact .inl rfl
 ·refine .inr fun hr'=> ?_
  obtain ⟨ob,ho,hn⟩:=hr g hr'.symm;rw [hh] at ho;injection ho with ho
  subst ho;cases hn
theorem Acc.kept(h:Acc E base e X w v xs)(hg:w.grownBy w' none):Acc E base e X w' v xs:=h.keep hg (by simp)
theorem Acc.more(h:Acc E base e X w v xs)(hX: ∀g,g< w.heap.size→X g→Y g):Acc E base e Y w v xs:=by
 obtain ⟨hb,css,h1,h2,h3⟩:=h;exact ⟨fun g hv=>hX g (h3.lt g hv).2 (hb g hv),css,h1,fun i hi hi'=>E.more (h2 i hi hi') fun g hl hg=>⟨hX g hl hg.1,hg.2⟩,h3⟩
theorem Acc.sl(h:Acc E base e X w v xs):Sl E X w v xs:=by
 obtain ⟨hb,css,h1,h2,h3⟩:=h;have hlen: ∀i (h:i< css.length),css[i].length=E.size:=fun i h=>E.len (h2 i (by omega) h)
 rcases h3.2 with ⟨hv,h0⟩|⟨g,cap,cur,hv,_,hh,hnc,hcm,_,hx⟩
 ·refine ⟨none,0,by rw [hv,h0],by omega,by omega,fun hn=>absurd (List.eq_nil_of_length_eq_zero h0) hn⟩
 ·refine ⟨some ⟨g,0,none⟩,cap,hv,hnc,hcm,fun _=>⟨g,0,rfl,(h3.lt g (by rw [hv];rfl)).2,hb g (by rw [hv];rfl),fun i hi=> ?_⟩⟩;refine ⟨css[i]'(by omega),E.more (h2 i hi (by omega)) fun g _ hg=>hg.1,fun j u hu=> ?_⟩;have hf:=XA hlen (i:=i) (by omega) hu;rw [Nat.zero_add,cell_of_row w g _ cur e (0,0) hh, ←Array.getElem?_toList];rw [←hx,List.getElem?_take] at hf;split at hf
  ·exact hf
  ·cases hf
theorem Acc.lt(h:Acc E base e X w v xs): ∀g,v.ownBlock=some g→base≤g∧g< w.heap.size:=by
 obtain ⟨_,css,_,_,h3⟩:=h;exact h3.lt
end
theorem gRf{w:World}:w.grownBy w none:=World.grownBy.refl w none
theorem za{p:Prop}(h:p):Hid p:=Lib.hid h
theorem gAl(w:World)(o:Obj)(row:Option Nat):w.grownBy (w.alloc o) row:=World.grownBy_alloc w o row
theorem sAa{α:Type}(l:List α)(i:Nat)(a:α):l.toArray.setIfInBounds i a=(l.set i a).toArray:=List.setIfInBounds_toArray l i a
theorem sAb{α:Type}{x y:α}{l:List α}:List.set (x::l) 0 y=y::l:=List.set_cons_zero
theorem sAc{α:Type}{x y:α}{l:List α}{n:Nat}:List.set (x::l) (n+1) y=x::l.set n y:=List.set_cons_succ
end
section
open Go.RowKit
def zA(P:Program)(t e:TypeId)(size bytes:Nat):Prop:=
 0< bytes∧P.underlying t=some (.slice e)∧ ∃i z,P.info? e=some i∧i.zero=some z∧i.size=size∧i.bytes=bytes∧z.cells.size=size
theorem zA.mk'{P:Program}{t e:TypeId}{size bytes:Nat}{z:Value}(hb:0< bytes)(ht:P.underlying t=some (.slice e))(h:(P.info? e).map (fun i=>(i.zero,i.size,i.bytes))=some (some z,size,bytes))(hz:z.cells.size=size):zA P t e size bytes:=by
 obtain ⟨i,hi,h0,h1,h2⟩:=info_parts h;exact ⟨hb,ht,i,z,hi,h0,h1,h2,hz⟩
section
variable {α:Type} {P:Program} {E:Enc α} {base:Nat} {e:TypeId} {X Z:Nat→Prop} {w:World} {v:Value} {xs:List α}
theorem MC{t ty:TypeId}{size bytes:Nat}(hE:zA P t e size bytes)(hsz:0< size){n:Nat}{cs:List Value}(hown:w.ownsRow base e size v n cs)
  (A:Option Addr) (m c:Nat) (news:List Value) (hl:news.length=m*size) (h0:A=none→m=0) (hc: ∀ad,A=some ad→ ∀j u,news[j]? =some u→w.cell? (ad.add j)=some u)
  (h1: ∀u∈news,u.oneCell'=true) (hbytes:(n+m)*bytes≤140737488355328) (hbase:base≤w.heap.size):
  ∃v' w',(Builtin.append_ #[t,t] ty #[v, .slice A m c]).run P w= .ok v' w'∧w'.ownsRow base e size v' (n+m) (cs++news)∧w.grownBy w' v.ownBlock∧(v'.ownBlock=v.ownBlock∨v'.ownBlock=some w.heap.size):=by
 obtain ⟨hb,ht,i,z,hi,hz,hz1,hz2,hz3⟩:=hE;have h63:n+m≤maxLen:=by
  have:(n+m)*1≤(n+m)*bytes:=Nat.mul_le_mul_left _ hb
  unfold maxLen;omega
 cases A with
 |none=>
  have hm:=h0 rfl;subst hm;have hn:news= []:=List.eq_nil_of_length_eq_zero (by simpa using hl);subst hn;refine ⟨v,w, ?_,by simpa using hown,World.grownBy.refl w _, .inl rfl⟩;rcases hown.2 with ⟨rfl,rfl⟩|⟨g,cap,cur,rfl,_,_,hnc,_⟩
  ·simp [Builtin.append_,run_underlying ht,sizeOf,typeInfo,hi,Builtin.lenOf,Builtin.firstCells]
  ·simp [Builtin.append_,run_underlying ht,sizeOf,typeInfo,hi,Builtin.lenOf,Builtin.firstCells,hnc,storeCells]
 |some ad=>
  obtain ⟨v',w',hr,h2,h3,_,h5⟩:=run_append_own_at (P:=P) w base t ty e i z size bytes ht hi hz hz1 hz2 hz3 hsz v n cs hown ad m c news hl (hc ad rfl) h1 h63 hbytes hbase;exact ⟨v',w',hr,h2,h3,h5⟩
theorem Mg{o:Oper}{a:Act}{K:Act→World→Prop}{Q:Exit→Act→World→Prop}(s x:Operand)(t:TypeId)
  (ho:o.op= .call {callee:= .builtin .append,args:= #[s,x],argTypes:= #[t,t]}) {size bytes:Nat} (hE:zA P t e size bytes) (hsz:0< size) {n:Nat} {cs:List Value} (hs:a.eval s=v) (hown:w.ownsRow base e size v n cs)
  (A:Option Addr) (m c:Nat) (news:List Value) (hx:a.eval x= .slice A m c) (hl:news.length=m*size) (h0:A=none→m=0) (hc: ∀ad,A=some ad→ ∀j u,news[j]? =some u→w.cell? (ad.add j)=some u)
  (h1: ∀u∈news,u.oneCell'=true) (hbytes:(n+m)*bytes≤140737488355328) (hbase:base≤w.heap.size)
  (h: ∀v' w',w'.ownsRow base e size v' (n+m) (cs++news)→w.grownBy w' v.ownBlock→(v'.ownBlock=v.ownBlock∨v'.ownBlock=some w.heap.size)→K (a.put o.dst v') w'):o.wp P a w K Q:=by
 obtain ⟨v',w',hr,h2,h3,h4⟩:=MC (P:=P) (ty:=o.type) hE hsz hown A m c news hl h0 hc h1 hbytes hbase;unfold Oper.wp execOp;simp only [ho,resolve,invoke,builtin,Sem.run_bind,Sem.run_pure,Result.andThen_ok,List.map_toArray,List.map_cons,List.map_nil,hs,hx,hr];exact h v' w' h2 h3 h4
theorem Acc.app{w':World}{v':Value}(h:Acc E base e X w v xs){ys:List α}{cs2:List (List Value)}(hlen:cs2.length=ys.length)(hx: ∀i (h:i< ys.length) (h':i< cs2.length),E.rep (fun g=>X g∧some g≠v.ownBlock) w cs2[i] ys[i])
  (hown: ∀css,w.ownsRow base e E.size v xs.length css→w'.ownsRow base e E.size v' (xs.length+ys.length) (css++cs2.flatten)) (hg:w.grownBy w' v.ownBlock) (hat:v'.ownBlock=v.ownBlock∨ ∃n,w.heap.size≤n∧v'.ownBlock=some n)
  (hN: ∀g,w.heap.size≤g→X g):Acc E base e X w' v' (xs++ys):=by
 obtain ⟨hb,css,h1,h2,h3⟩:=h;have lift: ∀{cs':List Value} {y:α},E.rep (fun g=>X g∧some g≠v.ownBlock) w cs' y→E.rep (fun g=>X g∧some g≠v'.ownBlock) w' cs' y:=fun hr=>by
  have a1:=E.more (Y:=fun g=>g< w.heap.size∧X g∧some g≠v.ownBlock) hr fun g hl hg=>⟨hl,hg⟩
  have a2:=E.keep a1 hg fun g hg=>hg.2.2
  refine E.more a2 fun g _ hg=>⟨hg.2.1, ?_⟩
  rcases hat with hat|⟨n,hn,hat⟩<;>rw [hat]
  ·exact hg.2.2
  ·intro he;injection he with he
   have:=hg.1
   omega
 refine ⟨fun g hv=> ?_,css++cs2,by simp [h1,hlen],fun i hi hi'=> ?_, ?_⟩
 ·rcases hat with hat|⟨n,hn,hat⟩<;>rw [hat] at hv
  ·exact hb g hv
  ·injection hv with hv;subst hv;exact hN _ hn
 ·refine lift ?_;rcases Nat.lt_or_ge i css.length with hlt|hge
  ·have e1:(css++cs2)[i]=css[i]:=List.getElem_append_left hlt;have e2:(xs++ys)[i]=xs[i]'(by omega):=List.getElem_append_left (by omega);rw [e1,e2];exact h2 i (by omega) hlt
  ·have e1:(css++cs2)[i]=cs2[i - css.length]'(by simp at hi';omega):=List.getElem_append_right hge;have e2:(xs++ys)[i]=ys[i - xs.length]'(by simp at hi;omega):=List.getElem_append_right (by omega);rw [e1,e2];simp only [h1];exact hx _ _ _
 ·have:=hown _ h3
  simpa using this
def xM(w:World)(v v':Value):Prop:=v'.ownBlock=v.ownBlock∨ ∃n,w.heap.size≤n∧v'.ownBlock=some n
theorem xM.ne{w:World}{v v':Value}(h:xM w v v'){g:Nat}(hg:g< w.heap.size)(hne:v.ownBlock≠some g):v'.ownBlock≠some g:=by
 rcases h with h|⟨n,hn,h⟩<;>rw [h]
 ·exact hne
 ·intro he;injection he with he;omega
theorem YY{size n:Nat}{cs cs':List Value}(h:w.ownsRow base e size v n cs)(k:w.ownsRow base e size v n cs'):cs=cs':=by
 rcases h.2 with ⟨r1,r2⟩|⟨g,cap,cur,r1,_,r3,_,_,_,r7⟩
 ·have l1:=h.1;have l2:=k.1;rw [r2,Nat.zero_mul] at l1 l2;have a1:cs= []:=List.eq_nil_of_length_eq_zero l1;have a2:cs'= []:=List.eq_nil_of_length_eq_zero l2;rw [a1,a2]
 ·rcases k.2 with ⟨q1,_⟩|⟨g',cap',cur',q1,_,q3,_,_,_,q7⟩
  ·rw [r1] at q1;cases q1
  ·rw [r1] at q1;injection q1 with q1 _ _
   injection q1 with q1
   injection q1 with q1
   subst q1;rw [r3] at q3;injection q3 with q3
   injection q3 with q3
   subst q3;rw [←q7, ←r7]
theorem YV{cs:List Value}{y:α}{t:TypeId}{bytes:Nat}(hE:zA P t e E.size bytes)(hacc:Acc E base e X w v xs)(hrep:E.rep (fun g=>X g∧some g≠v.ownBlock) w cs y)
  (hlen:(xs.length+1)*bytes≤140737488355328) (hb:base≤w.heap.size) (hN: ∀g,w.heap.size≤g→X g)
  {o:Oper} {a:Act} {K:Act→World→Prop} {Q:Exit→Act→World→Prop} (s x:Operand)
  (ho:o.op= .call {callee:= .builtin .append,args:= #[s,x],argTypes:= #[t,t]}) (hs:a.eval s=v) (hx:a.eval x= .slice (some ⟨w.heap.size,0,none⟩) 1 1)
  (h: ∀v' w',Acc E base e X w' v' (xs++ [y])→w.grownBy w' v.ownBlock→xM w v v'→K (a.put o.dst v') w'):o.wp P a (w.alloc (.cells cs.toArray e)) K Q:=by
 obtain ⟨_,css,h1,_,h3⟩:=id hacc;have hcl:=E.len hrep;have hbk:Bk (w.alloc (.cells cs.toArray e)) w.heap.size e cs.toArray:=Bk.new w _ _;have hga:w.grownBy (w.alloc (.cells cs.toArray e)) v.ownBlock:=gAl w _ _;refine Mg s x t ho (size:=E.size) hE E.pos hs (h3.alloc _) (some ⟨w.heap.size,0,none⟩) 1 1 cs hx (by rw [hcl,Nat.one_mul]) (by simp) ?_ (E.ones hrep) hlen (by simp;omega) ?_
 ·intro ad e' j u hu;injection e' with e'
  subst e'
  have:=hbk.cell j
  rw [List.getElem?_toArray,hu] at this;rw [←this];unfold Addr.add;split
  ·rename_i h0
   have:j=0:=by simpa using h0
   subst this;rfl
  ·simp
 ·intro v' w' hown hg hat;have hgg:=hga.trans hg;have hat':xM w v v':=hat.imp id fun e=>⟨_,by simp,e⟩
  refine h v' w' (hacc.app (cs2:= [cs]) (ys:= [y]) rfl (fun i hi hi'=> ?_) (fun css' hc'=> ?_) hgg hat' hN) hgg hat'
  ·have:i=0:=by simp at hi;omega
   subst this;exact hrep
  ·have e1:css'=css.flatten:=YY hc' h3;rw [e1];simpa using hown
theorem zQ{cs:List Value}{y:α}{t:TypeId}{bytes:Nat}{ops:Array Oper}{rest:List Oper}{o:Oper}{a:Act}{Q:Exit→Act→World→Prop}(hgd:o.guard=none)(s x:Operand)
  (ho:o.op= .call {callee:= .builtin .append,args:= #[s,x],argTypes:= #[t,t]}) (hE:zA P t e E.size bytes) (hacc:Acc E base e X w v xs) (hs:a.eval s=v) (hx:a.eval x= .slice (some ⟨w.heap.size,0,none⟩) 1 1) (hrep:E.rep (fun g=>X g∧some g≠v.ownBlock) w cs y)
  (hlen:(xs.length+1)*bytes≤140737488355328) (hb:base≤w.heap.size) (hN: ∀g,w.heap.size≤g→X g)
  (h: ∀v' w',Acc E base e X w' v' (xs++ [y])→w.grownBy w' v.ownBlock→xM w v v'→wpList P ops Q rest (a.put o.dst v') w'):wpList P ops Q (o::rest) a (w.alloc (.cells cs.toArray e)):=
 wpList_plain hgd fun _ hK=>YV hE hacc hrep hlen hb hN s x ho hs hx fun v' w' h1 h2 h3=>hK _ _ (h v' w' h1 h2 h3)
theorem yZ{cs:List Value}{y:α}{t:TypeId}{bytes:Nat}{ops:Array Oper}{o:Oper}{a:Act}{K:Act→World→Prop}{Q:Exit→Act→World→Prop}{F:Prop}(hgd:o.guard=none)(s x:Operand)
  (ho:o.op= .call {callee:= .builtin .append,args:= #[s,x],argTypes:= #[t,t]}) (hE:zA P t e E.size bytes) (hacc:Acc E base e X w v xs) (hs:a.eval s=v) (hx:a.eval x= .slice (some ⟨w.heap.size,0,none⟩) 1 1) (hrep:E.rep (fun g=>X g∧some g≠v.ownBlock) w cs y)
  (hlen:(xs.length+1)*bytes≤140737488355328) (hb:base≤w.heap.size) (hN: ∀g,w.heap.size≤g→X g)
  (h: ∀v' w',Acc E base e X w' v' (xs++ [y])→w.grownBy w' v.ownBlock→xM w v v'→K (a.put o.dst v') w'):if Region.wanted o (yielded ops a.tmps)=true then Oper.wp P o a (w.alloc (.cells cs.toArray e)) K Q else F:=by
 have hw:Region.wanted o (yielded ops a.tmps)=true:=by simp [Region.wanted,hgd]
 rw [if_pos hw];exact YV hE hacc hrep hlen hb hN s x ho hs hx h
theorem Ue{ys:List α}{A:Option Addr}{m c:Nat}{t:TypeId}{bytes:Nat}(hE:zA P t e E.size bytes)(hacc:Acc E base e X w v xs)(hys:Sl E Z w (.slice A m c) ys)(hZ: ∀cs y,E.rep Z w cs y→E.rep (fun g=>X g∧some g≠v.ownBlock) w cs y)
  (hlen:(xs.length+ys.length)*bytes≤140737488355328) (hb:base≤w.heap.size) (hN: ∀g,w.heap.size≤g→X g)
  {o:Oper} {a:Act} {K:Act→World→Prop} {Q:Exit→Act→World→Prop} (s x:Operand)
  (ho:o.op= .call {callee:= .builtin .append,args:= #[s,x],argTypes:= #[t,t]}) (hs:a.eval s=v) (hx:a.eval x= .slice A m c)
  (h: ∀v' w',Acc E base e X w' v' (xs++ys)→w.grownBy w' v.ownBlock→xM w v v'→K (a.put o.dst v') w'):o.wp P a w K Q:=by
 obtain ⟨_,css,h1,_,h3⟩:=id hacc;obtain ⟨A',c',e',hl1,hl2,hc⟩:=hys;injection e' with e1 e2 e3
 subst e1 e2 e3;have key: ∀i, ∃cs, ∀(hi:i< ys.length),E.rep Z w cs ys[i]∧ ∀g o,A=some ⟨g,o,none⟩→ ∀j u,cs[j]? =some u→w.cell? ⟨g,o+i*E.size+j,none⟩=some u:=by
  intro i;by_cases hi:i< ys.length
  ·obtain ⟨g,o,eA,_,_,hcc⟩:=hc (by intro h0;rw [h0] at hi;exact absurd hi (by simp));obtain ⟨cs,hr,hcell⟩:=hcc i hi;refine ⟨cs,fun _=>⟨hr,fun g' o' eA'=> ?_⟩⟩;rw [eA] at eA';injection eA' with eA'
   injection eA' with e1 e2
   subst e1 e2;exact hcell
  ·exact ⟨[],fun h=>absurd h hi⟩
 obtain ⟨f,hf⟩: ∃f:Nat→List Value, ∀i (hi:i< ys.length),E.rep Z w (f i) ys[i]∧ ∀g o,A=some ⟨g,o,none⟩→ ∀j u,(f i)[j]? =some u→w.cell? ⟨g,o+i*E.size+j,none⟩=some u:=
  ⟨fun i=>Classical.choose (key i),fun i=>Classical.choose_spec (key i)⟩
 have hcs2:((List.range ys.length).map f).length=ys.length:=by simp
 have hat2: ∀i (hi:i< ((List.range ys.length).map f).length),((List.range ys.length).map f)[i]=f i:=fun i hi=>by simp
 have hlens: ∀i (hi:i< ((List.range ys.length).map f).length),((List.range ys.length).map f)[i].length=E.size:=fun i hi=>by
  rw [hat2];exact E.len (hf i (by simpa using hi)).1
 have hfl:((List.range ys.length).map f).flatten.length=ys.length*E.size:=by
  rw [List.length_flatten]
  have:((List.range ys.length).map f).map List.length=List.replicate ys.length E.size:=by
   apply List.ext_getElem
   ·simp
   ·intro i hi hi'
    have:=hlens i (by simpa using hi)
    simp at this ⊢;exact this
  rw [this];simp
 refine Mg s x t ho (size:=E.size) hE E.pos hs h3 A ys.length c ((List.range ys.length).map f).flatten hx hfl ?_ ?_ ?_ hlen hb ?_
 ·intro hA;rcases Nat.eq_zero_or_pos ys.length with h0|h0
  ·exact h0
  ·obtain ⟨g,o,eA,_⟩:=hc (by intro h;rw [h] at h0;simp at h0);rw [hA] at eA;cases eA
 ·intro ad hA j u hu;have hj:j< ys.length*E.size:=by rw [←hfl];exact (List.getElem?_eq_some_iff.1 hu).1
  have hpos:0< ys.length:=by
   rcases Nat.eq_zero_or_pos ys.length with h0|h0
   ·rw [h0] at hj;omega
   ·exact h0
  obtain ⟨g,o,eA,_⟩:=hc (by intro h;rw [h] at hpos;simp at hpos);have hi:j / E.size< ys.length:=Nat.div_lt_of_lt_mul (by rw [Nat.mul_comm];exact hj);have hr:j%E.size< E.size:=Nat.mod_lt _ E.pos;have hfi:=hf _ hi;have hu2:(f (j / E.size))[j%E.size]? =some ((f (j / E.size))[j%E.size]'(by rw [E.len hfi.1];exact hr)):=List.getElem?_eq_getElem _;have hfa:=XA hlens (i:=j / E.size) (by simpa using hi) (j:=j%E.size) (u:=(f (j / E.size))[j%E.size]'(by rw [E.len hfi.1];exact hr)) (by rw [hat2];exact hu2);rw [show j / E.size*E.size+j%E.size=j by rw [Nat.mul_comm];exact Nat.div_add_mod j E.size] at hfa;rw [hu] at hfa;injection hfa with hfa
  have hcell:=hfi.2 g o eA (j%E.size) _ hu2;rw [show o+j / E.size*E.size+j%E.size=o+j by have:=Nat.div_add_mod j E.size;rw [Nat.mul_comm] at this;omega] at hcell;rw [hA] at eA;injection eA with eA
  subst eA;rw [hfa, ←hcell];unfold Addr.add;split
  ·rename_i h0
   have:j=0:=by simpa using h0
   subst this;rfl
  ·rfl
 ·intro u hu;obtain ⟨l,hl,hul⟩:=List.mem_flatten.1 hu;obtain ⟨i,hi,rfl⟩:=List.mem_map.1 hl;exact E.ones (hf i (by simpa using hi)).1 u hul
 ·intro v' w' hown hg hat;have hat':xM w v v':=hat.imp id fun e=>⟨_,Nat.le_refl _,e⟩
  refine h v' w' (hacc.app hcs2 (fun i hi hi'=> ?_) (fun css' hc'=> ?_) hg hat' hN) hg hat'
  ·rw [hat2];exact hZ _ _ (hf i hi).1
  ·rw [YY hc' h3];exact hown
theorem xo{ys:List α}{A:Option Addr}{m c:Nat}{t:TypeId}{bytes:Nat}{ops:Array Oper}{rest:List Oper}{o:Oper}{a:Act}{Q:Exit→Act→World→Prop}(hgd:o.guard=none)(s x:Operand)
  (ho:o.op= .call {callee:= .builtin .append,args:= #[s,x],argTypes:= #[t,t]}) (hE:zA P t e E.size bytes) (hacc:Acc E base e X w v xs) (hs:a.eval s=v) (hx:a.eval x= .slice A m c) (hys:Sl E Z w (.slice A m c) ys) (hZ: ∀cs y,E.rep Z w cs y→E.rep (fun g=>X g∧some g≠v.ownBlock) w cs y)
  (hlen:(xs.length+ys.length)*bytes≤140737488355328) (hb:base≤w.heap.size) (hN: ∀g,w.heap.size≤g→X g)
  (h: ∀v' w',Acc E base e X w' v' (xs++ys)→w.grownBy w' v.ownBlock→xM w v v'→wpList P ops Q rest (a.put o.dst v') w'):wpList P ops Q (o::rest) a w:=
 wpList_plain hgd fun _ hK=>Ue hE hacc hys hZ hlen hb hN s x ho hs hx fun v' w' h1 h2 h3=>hK _ _ (h v' w' h1 h2 h3)
theorem Acc.made(E:Enc α)(w:World)(e:TypeId){B:Nat}(hB:B≤w.heap.size)(X:Nat→Prop)(hX:X w.heap.size):Acc E B e X (w.alloc (.cells #[] e)) (.slice (some ⟨w.heap.size,0,none⟩) 0 0) []:=
 ⟨fun g hg=>by simp [Value.ownBlock] at hg;subst hg;exact hX, [],rfl,fun i hi=>absurd hi (by simp),World.ownsRow_made w #[] 0 hB (Nat.zero_le _) (by simp)⟩
theorem Acc.ne_bk(h:Acc E base e X w v xs){g:Nat}{t:TypeId}{cs:Array Value}(hb:Bk w g t cs)(hne:e≠t):v.ownBlock≠some g:=by
 obtain ⟨_,css,_,_,h3⟩:=h;rcases h3.2 with ⟨rfl,_⟩|⟨g',cap,cur,rfl,_,hh,_⟩
 ·simp [Value.ownBlock]
 ·intro he
  have:g'=g:=by simpa [Value.ownBlock] using he
  subst this;unfold Bk at hb;rw [hb] at hh;injection hh with hh
  injection hh with _ ht
  exact hne ht.symm
end
end
section
open Go.RowKit
section
variable {α:Type} {E:Enc α} {X Y:Nat→Prop} {w w':World} {v:Value} {xs:List α}
theorem Sl.take{A:Option Addr}{n c:Nat}(h:Sl E X w (.slice A n c) xs)(k:Nat)(hk:k≤xs.length):Sl E X w (.slice A k c) (xs.take k):=by
 obtain ⟨A',c',e,h1,h2,h3⟩:=h;injection e with e1 e2 e3
 subst e1 e2 e3;refine ⟨A,c,by rw [List.length_take,Nat.min_eq_left hk],by rw [List.length_take];omega,h2,fun hn=> ?_⟩;obtain ⟨g,o,eA,hg,hX,hc⟩:=h3 (by intro h0;rw [h0] at hn;simp at hn);refine ⟨g,o,eA,hg,hX,fun i hi=> ?_⟩;obtain ⟨cs,hr,hcell⟩:=hc i (by rw [List.length_take] at hi;omega);exact ⟨cs,by rw [List.getElem_take];exact hr,hcell⟩
theorem Sl.drop{g o n c:Nat}(h:Sl E X w (.slice (some ⟨g,o,none⟩) n c) xs)(k:Nat)(hk:k≤xs.length):Sl E X w (.slice (some ⟨g,o+k*E.size,none⟩) (n - k) (c - k)) (xs.drop k):=by
 obtain ⟨A',c',e,h1,h2,h3⟩:=h;injection e with e1 e2 e3
 subst e1 e2 e3;refine ⟨_,_,by rw [List.length_drop],by rw [List.length_drop];omega,by omega,fun hn=> ?_⟩;obtain ⟨g',o',eA,hg,hX,hc⟩:=h3 (by intro h0;rw [h0] at hn;simp at hn);injection eA with eA
 injection eA with eg eo
 subst eg eo;refine ⟨g,_,rfl,hg,hX,fun i hi=> ?_⟩;obtain ⟨cs,hr,hcell⟩:=hc (k+i) (by rw [List.length_drop] at hi;omega);refine ⟨cs,by rw [List.getElem_drop];exact hr,fun j u hu=> ?_⟩
 have:=hcell j u hu
 rwa [show o+(k+i)*E.size+j=o+k*E.size+i*E.size+j by rw [Nat.add_mul];omega] at this
theorem Sl.empty(E:Enc α)(X:Nat→Prop)(w:World)(A:Option Addr)(c:Nat)(hc:c≤9223372036854775807):Sl E X w (.slice A 0 c) []:=⟨A,c,rfl,Nat.zero_le _,hc,fun h=>absurd rfl h⟩
theorem Sl.bounded(h:Sl E X w v xs):Sl E (fun g=>X g∧g< w.heap.size) w v xs:=h.more fun _ hg hX=>⟨hX,hg⟩
theorem Sl.addr{A:Option Addr}{n c:Nat}(h:Sl E X w (.slice A n c) xs)(hn:0< xs.length): ∃g o,A=some ⟨g,o,none⟩∧g< w.heap.size∧X g:=by
 obtain ⟨A',c',e,h1,h2,h3⟩:=h;injection e with e1 e2 e3
 subst e1 e2 e3;obtain ⟨g,o,eA,hg,hX,_⟩:=h3 (by intro h0;rw [h0] at hn;simp at hn);exact ⟨g,o,eA,hg,hX⟩
def Wr(X:Nat→Prop)(w:World)(v:Value):Prop:= ∃g o n c,v= .slice (some ⟨g,o,none⟩) n c∧g< w.heap.size∧X g∧(∀i,w.frozen? ⟨g,i,none⟩=false)∧ ∃ob:Obj,w.heap[g]? =some ob∧ob.isCells=true
theorem Yc{g i:Nat}(h:w'.heap[g]? =w.heap[g]?):w'.frozen? ⟨g,i,none⟩=w.frozen? ⟨g,i,none⟩:=by simp [World.frozen?,h]
theorem Wr.keep(h:Wr X w v){row:Option Nat}(hg:w.grownBy w' row)(hX: ∀g,X g→some g≠row):Wr X w' v:=by
 obtain ⟨g,o,n,c,e,hl,hXg,hf,ob,ho,hn⟩:=h;exact ⟨g,o,n,c,e,Nat.lt_of_lt_of_le hl hg.size,hXg,fun i=>(Yc (hg.block g hl (hX g hXg))).trans (hf i),ob,(hg.block g hl (hX g hXg)).trans ho,hn⟩
theorem Wr.more(h:Wr X w v)(hX: ∀g,g< w.heap.size→X g→Y g):Wr Y w v:=by
 obtain ⟨g,o,n,c,e,hl,hXg,hf⟩:=h;exact ⟨g,o,n,c,e,hl,hX g hl hXg,hf⟩
end
theorem Wr.keepc{X:Nat→Prop}{w w':World}{v:Value}(h:Wr X w v){row:Option Nat}(hg:w.grownBy w' row)(hr: ∀r,row=some r→ ∃o:Obj,w.heap[r]? =some o∧o.isCells=false):Wr X w' v:=by
 obtain ⟨g,o,n,c,e,hl,hXg,hf,hcl⟩:=h;have hne:some g≠row:=fun e=>by
  obtain ⟨ob,ho,hn⟩:=hr g e.symm;obtain ⟨ob',ho',hn'⟩:=hcl;rw [ho] at ho';injection ho' with ho'
  rw [ho',hn'] at hn;cases hn
 exact ⟨g,o,n,c,e,Nat.lt_of_lt_of_le hl hg.size,hXg,fun i=>(Yc (hg.block g hl hne)).trans (hf i),by obtain ⟨ob,ho,hn⟩:=hcl;exact ⟨ob,(hg.block g hl hne).trans ho,hn⟩⟩
def xJ{α:Type}(E:Enc α):Enc (List α) where
 size:=1
 pos:=by decide
 rep:=fun X w cs xs=> ∃v,cs= [v]∧Sl E X w v xs∧Wr X w v
 len:=fun h=>by obtain ⟨v,rfl,_⟩:=h;rfl
 ones:=fun h u hu=>by
  obtain ⟨v,rfl,⟨A,c,rfl,_⟩,_⟩:=h;simp at hu;subst hu;rfl
 keep:=fun h hg hX=>by obtain ⟨v,e,h,h2⟩:=h;exact ⟨v,e,h.keep hg hX,h2.keep hg hX⟩
 more:=fun h hX=>by obtain ⟨v,e,h,h2⟩:=h;exact ⟨v,e,h.more hX,h2.more hX⟩
 keepc:=fun h hg hr=>by obtain ⟨v,e,h,h2⟩:=h;exact ⟨v,e,h.keepc hg hr,h2.keepc hg hr⟩
section
variable {α:Type} {E:Enc α} {X Y:Nat→Prop} {w w':World} {v:Value} {xs:List α}
theorem Acc.wr{base:Nat}{e:TypeId}(h:Acc E base e X w v xs)(hn:0< xs.length):Wr X w v:=by
 have hlt:=h.lt;obtain ⟨hb,css,h1,h2,h3⟩:=h;rcases h3.2 with ⟨hv,h0⟩|⟨g,cap,cur,hv,_,hh,_⟩
 ·omega
 ·refine ⟨g,0,xs.length,cap,hv,(hlt g (by rw [hv];rfl)).2,hb g (by rw [hv];rfl),fun i=> ?_,_,hh,rfl⟩;simp [World.frozen?,hh]
theorem Sl.plain{X:Nat→Prop}{w:World}{v:Value}{xs:List (List α)}(h:Sl (xJ E) X w v xs):Sl (zh E) X w v xs:=by
 obtain ⟨A,c,e,h1,h2,h3⟩:=h;refine ⟨A,c,e,h1,h2,fun hn=> ?_⟩;obtain ⟨g,o,eA,hg,hX,hc⟩:=h3 hn;refine ⟨g,o,eA,hg,hX,fun i hi=> ?_⟩;obtain ⟨cs,⟨v,e,hs,_⟩,hcell⟩:=hc i hi;exact ⟨cs,⟨v,e,hs⟩,hcell⟩
theorem Sl.via{F:Enc α}(hs:E.size=F.size)(hv: ∀cs y,E.rep X w cs y→F.rep X w cs y)(h:Sl E X w v xs):Sl F X w v xs:=by
 obtain ⟨A,c,e,h1,h2,h3⟩:=h;refine ⟨A,c,e,h1,h2,fun hn=> ?_⟩;obtain ⟨g,o,eA,hg,hX,hc⟩:=h3 hn;refine ⟨g,o,eA,hg,hX,fun i hi=> ?_⟩;obtain ⟨cs,hr,hcell⟩:=hc i hi;exact ⟨cs,hv _ _ hr,by rw [←hs];exact hcell⟩
theorem Sl.plain2{X:Nat→Prop}{w:World}{v:Value}{xs:List (List (List α))}(h:Sl (xJ (xJ E)) X w v xs):Sl (zh (zh E)) X w v xs:=
 Sl.via (E:=zh (xJ E)) rfl (fun _ _ ⟨v,e,hs⟩=>⟨v,e,hs.plain⟩) h.plain
end
theorem Sl.block{α:Type}{E:Enc α}{X:Nat→Prop}{w:World}{g c:Nat}{t:TypeId}{cs:Array Value}{xs:List α}(h:Bk w g t cs)(hX:X g)(css:List (List Value))(hl:css.length=xs.length)
  (hr: ∀i (hi:i< xs.length) (hi':i< css.length),E.rep X w css[i] xs[i]) (hc:cs.toList=css.flatten) (hn:xs.length≤c) (hc2:c≤9223372036854775807):Sl E X w (.slice (some ⟨g,0,none⟩) xs.length c) xs:=by
 refine ⟨_,c,rfl,hn,hc2,fun _=>⟨g,0,rfl,h.lt,hX,fun i hi=>⟨css[i]'(by omega),hr i hi (by omega),fun j u hu=> ?_⟩⟩⟩;have hf:=XA (m:=E.size) (fun i hi=>E.len (hr i (by omega) hi)) (i:=i) (by omega) hu;rw [Nat.zero_add,h.cell, ←Array.getElem?_toList,hc];exact hf
theorem Sl.nils{α:Type}(E:Enc α)(X:Nat→Prop){w:World}{g n:Nat}{t:TypeId}(h:Bk w g t (madeCells #[.slice none 0 0] n))(hX:X g)(hn:n≤9223372036854775807):Sl (zh E) X w (.slice (some ⟨g,0,none⟩) n n) (List.replicate n []):=by
 have:=Sl.block (E:=zh E) (xs:=List.replicate n ([]:List α)) (c:=n) h hX (List.replicate n [.slice none 0 0]) (by simp) (fun i hi hi'=>⟨_,by simp;rfl,by simp;exact Sl.nil E X w⟩) (by rw [toList_madeCells_one];simp) (by simp) hn
 simpa using this
theorem yS{w w':World}{row:Option Nat}(h:w.grownBy w' none):w.grownBy w' row:=⟨h.os,h.tape,h.output,h.size,fun k hk _=>h.block k hk (by simp)⟩
section
variable {α:Type} {P:Program} {E:Enc α} {base:Nat} {e:TypeId} {X Y Z:Nat→Prop} {w w0:World} {v:Value} {xs:List α}
theorem LM{ys:List α}{A:Option Addr}{m c:Nat}{t:TypeId}{bytes:Nat}(hE:zA P t e E.size bytes)(hys:Sl E X w (.slice A m c) ys)(hb:ys.length*bytes≤140737488355328)(hY: ∀g,w.heap.size≤g→Y g)(hXY: ∀cs y w',E.rep (fun g=>X g∧g< w.heap.size) w' cs y→E.rep (fun g=>Y g∧g< w.heap.size) w' cs y)
  {o:Oper} {a:Act} {K:Act→World→Prop} {Q:Exit→Act→World→Prop} (s x:Operand)
  (ho:o.op= .call {callee:= .builtin .append,args:= #[s,x],argTypes:= #[t,t]}) (hs:a.eval s= .slice (some ⟨w.heap.size,0,none⟩) 0 0) (hx:a.eval x= .slice A m c)
  (h: ∀A1 c1 w1,Acc E w.heap.size e Y w1 (.slice A1 ys.length c1) ys→w.grownBy w1 none→K (a.put o.dst (.slice A1 ys.length c1)) w1):o.wp P a (w.alloc (.cells #[] e)) K Q:=by
 have hS:Sl E (fun g=>X g∧g< w.heap.size) (w.alloc (.cells #[] e)) (.slice A m c) ys:=hys.bounded.kept (gAl w _ none);refine Ue (xs:= []) (X:=Y) (base:=w.heap.size) hE (Acc.made _ w e (Nat.le_refl _) Y (hY _ (Nat.le_refl _))) hS (fun cs y hr=>E.more (hXY _ _ _ hr) fun g _ hg=>⟨hg.1,fun he=>by simp [Value.ownBlock] at he;have:=hg.2;omega⟩) (by simpa using hb) (by simp) (fun g hg=>hY g (by simp at hg;omega)) s x ho hs hx ?_;intro v1 w1 hacc hg _;rw [List.nil_append] at hacc;obtain ⟨A1,c1,e1,_,_⟩:=hacc.sl.form;subst e1;exact h A1 c1 w1 hacc (zB (gAl w _ none) hg (fun g he=>by simp [Value.ownBlock] at he;omega))
theorem Rb{ys:List α}{A:Option Addr}{m c:Nat}{t:TypeId}{bytes:Nat}{ops:Array Oper}{rest:List Oper}{o:Oper}{a:Act}{Q:Exit→Act→World→Prop}(hgd:o.guard=none)(s x:Operand)
  (ho:o.op= .call {callee:= .builtin .append,args:= #[s,x],argTypes:= #[t,t]}) (hE:zA P t e E.size bytes) (hs:a.eval s= .slice (some ⟨w.heap.size,0,none⟩) 0 0) (hx:a.eval x= .slice A m c) (hys:Sl E X w (.slice A m c) ys) (hb:ys.length*bytes≤140737488355328) (hY: ∀g,w.heap.size≤g→Y g) (hXY: ∀cs y w',E.rep (fun g=>X g∧g< w.heap.size) w' cs y→E.rep (fun g=>Y g∧g< w.heap.size) w' cs y)
  (h: ∀A1 c1 w1,Acc E w.heap.size e Y w1 (.slice A1 ys.length c1) ys→w.grownBy w1 none→wpList P ops Q rest (a.put o.dst (.slice A1 ys.length c1)) w1):wpList P ops Q (o::rest) a (w.alloc (.cells #[] e)):=
 wpList_plain hgd fun _ hK=>LM hE hys hb hY hXY s x ho hs hx fun A1 c1 w1 h1 h2=>hK _ _ (h A1 c1 w1 h1 h2)
theorem UF{cs:List Value}{y:α}{t:TypeId}{bytes:Nat}(hE:zA P t e E.size bytes)(hG:w0.grownBy w none)(hacc:Acc E w0.heap.size e Y w v xs)(hY: ∀g,w0.heap.size≤g→Y g)(hrep:E.rep (fun g=>Y g∧some g≠v.ownBlock) w cs y)
  (hlen:(xs.length+1)*bytes≤140737488355328)
  {o:Oper} {a:Act} {K:Act→World→Prop} {Q:Exit→Act→World→Prop} (s x:Operand)
  (ho:o.op= .call {callee:= .builtin .append,args:= #[s,x],argTypes:= #[t,t]}) (hs:a.eval s=v) (hx:a.eval x= .slice (some ⟨w.heap.size,0,none⟩) 1 1)
  (h: ∀v' w',Acc E w0.heap.size e Y w' v' (xs++ [y])→w0.grownBy w' none→w.grownBy w' v.ownBlock→K (a.put o.dst v') w'):o.wp P a (w.alloc (.cells cs.toArray e)) K Q:=
 YV hE hacc hrep hlen hG.size (fun g hg=>hY g (Nat.le_trans hG.size hg)) s x ho hs hx fun v' w' h1 h2 _=>h v' w' h1 (zB hG h2 fun g he=>(hacc.lt g he).1) h2
theorem zC{cs:List Value}{y:α}{t:TypeId}{bytes:Nat}{ops:Array Oper}{rest:List Oper}{o:Oper}{a:Act}{Q:Exit→Act→World→Prop}(hgd:o.guard=none)(s x:Operand)
  (ho:o.op= .call {callee:= .builtin .append,args:= #[s,x],argTypes:= #[t,t]}) (hE:zA P t e E.size bytes) (hG:w0.grownBy w none) (hacc:Acc E w0.heap.size e Y w v xs) (hY: ∀g,w0.heap.size≤g→Y g) (hrep:E.rep (fun g=>Y g∧some g≠v.ownBlock) w cs y)
  (hlen:(xs.length+1)*bytes≤140737488355328) (hs:a.eval s=v) (hx:a.eval x= .slice (some ⟨w.heap.size,0,none⟩) 1 1)
  (h: ∀v' w',Acc E w0.heap.size e Y w' v' (xs++ [y])→w0.grownBy w' none→w.grownBy w' v.ownBlock→wpList P ops Q rest (a.put o.dst v') w'):wpList P ops Q (o::rest) a (w.alloc (.cells cs.toArray e)):=
 wpList_plain hgd fun _ hK=>UF hE hG hacc hY hrep hlen s x ho hs hx fun v' w' h1 h2 h3=>hK _ _ (h v' w' h1 h2 h3)
theorem OI{cs:List Value}{y:α}{t:TypeId}{bytes:Nat}{ops:Array Oper}{o:Oper}{a:Act}{K:Act→World→Prop}{Q:Exit→Act→World→Prop}{F:Prop}(hgd:o.guard=none)(s x:Operand)
  (ho:o.op= .call {callee:= .builtin .append,args:= #[s,x],argTypes:= #[t,t]}) (hE:zA P t e E.size bytes) (hG:w0.grownBy w none) (hacc:Acc E w0.heap.size e Y w v xs) (hY: ∀g,w0.heap.size≤g→Y g) (hrep:E.rep (fun g=>Y g∧some g≠v.ownBlock) w cs y)
  (hlen:(xs.length+1)*bytes≤140737488355328) (hs:a.eval s=v) (hx:a.eval x= .slice (some ⟨w.heap.size,0,none⟩) 1 1)
  (h: ∀v' w',Acc E w0.heap.size e Y w' v' (xs++ [y])→w0.grownBy w' none→w.grownBy w' v.ownBlock→K (a.put o.dst v') w'):if Region.wanted o (yielded ops a.tmps)=true then Oper.wp P o a (w.alloc (.cells cs.toArray e)) K Q else F:=by
 have hw:Region.wanted o (yielded ops a.tmps)=true:=by simp [Region.wanted,hgd]
 rw [if_pos hw];exact UF hE hG hacc hY hrep hlen s x ho hs hx h
end
def chk{α:Type}(n:Nat)(l:List α)(k:Nat):List (List α):=(List.range k).map fun j=>(l.drop (j*n)).take n
theorem TH{α:Type}(n:Nat)(l:List α)(k:Nat):chk n l (k+1)=chk n l k++ [(l.drop (k*n)).take n]:=by
 unfold chk;rw [List.range_succ,List.map_append];rfl
theorem zF{α:Type}(n:Nat)(l:List α)(k:Nat):(chk n l k).length=k:=by simp [chk]
def Fo{α:Type}(E:Enc α)(Y:Nat→Prop)(w:World)(xs:List α)(n:Int)(e:Ending)(w':World):Prop:= ∃v,e= .returned (.tuple #[v, .int .i64 n])∧Sl E Y w' v xs∧w.grownBy w' none
def zH{α:Type}(E:Enc α)(Y:Nat→Prop)(w:World)(xs:List α)(e:Ending)(w':World):Prop:= ∃v,e= .returned v∧Sl E Y w' v xs∧w.grownBy w' none
end
section
open Go.RowKit
theorem TB:(Tryz.prog.info? 22).map (fun i=>(i.zero,i.size,i.bytes))=some (some (.int .u64 0),1,8):=by kernel_rfl
theorem Xb:(Tryz.prog.info? 31).map (fun i=>(i.zero,i.size,i.bytes))=some (some (.slice none 0 0),1,24):=by kernel_rfl
theorem Lo:(Tryz.prog.info? 43).map (fun i=>(i.zero,i.size,i.bytes))=some (some (.slice none 0 0),1,24):=by kernel_rfl
theorem RS:(Tryz.prog.info? 153).map (fun i=>(i.zero,i.size,i.bytes))=some (some (.agg #[.int .u64 0, .int .u64 0]),2,16):=by kernel_rfl
theorem Yl:(Tryz.prog.info? 72).map (fun i=>(i.zero,i.size,i.bytes))=some (some (.slice none 0 0),1,24):=by kernel_rfl
theorem xd:zA Tryz.prog 31 22 1 8:=zA.mk' (by decide) Tryz.underlying31 TB rfl
theorem Zb:zA Tryz.prog 43 31 1 24:=zA.mk' (by decide) Tryz.underlying43 Xb rfl
theorem YD:zA Tryz.prog 104 43 1 24:=zA.mk' (by decide) Tryz.underlying104 Lo rfl
theorem YE:zA Tryz.prog 72 153 2 16:=zA.mk' (by decide) Tryz.underlying72 RS rfl
theorem Yn:zA Tryz.prog 103 72 1 24:=zA.mk' (by decide) Tryz.underlying103 Yl rfl
end
section
open Go.RowKit
theorem RN:(Lib.len8tab.size:Int)=256:=by
 have:Lib.len8tab.size=256:=by decide
 omega
theorem Ze(k a b:Nat)(hk:k≤56)(ha:a≤8)(hb:b=k+a):wrap64 ((k:Int)+wrap64 (a:Int))=(b:Int):=by
 unfold wrap64;omega
theorem Md(a:Nat)(ha:a≤8):wrap64 (wrap64 (a:Int))=(a:Int):=by
 unfold wrap64;omega
theorem Zi(y:Int)(h:y.toNat< Lib.len8tab.size):((Lib.len8tab[y.toNat]'h).toNat:Int)=Lib.len8 y:=by
 unfold Lib.len8;rw [getElem?_pos Lib.len8tab y.toNat h];rfl
set_option maxRecDepth 1000000 in
theorem Lg(x:Int)(w:World)(h0:0≤x)(h1:x≤18446744073709551615):
  Calls Tryz.prog 239 #[.int .u64 x] w fun e w'=>e= .returned (.int .i64 (Lib.bitLen x.toNat))∧w'=w:=by
 go_enter Tryz.func239,Tryz.ntmps239;go_wp2
 all_goals first
  |(go_ret;refine ⟨congrArg Ending.returned (congrArg (Value.int IntKind.i64) ?_),rfl⟩;go_light)
  |(exfalso
    go_light;have hs:=RN;omega)
 all_goals first
  |(rw [Zi (x / 4294967296 / 65536 / 256) _,Lib.len8_of (x / 4294967296 / 65536 / 256) (by omega) (by omega)]
    have e:(x / 4294967296 / 65536 / 256).toNat=x.toNat / 72057594037927936:=by omega
    have l:=Lib.bitLen_le8' (x / 4294967296 / 65536 / 256) (by omega) (by omega);have s:=Lib.bitLen_shift56 x.toNat (by omega) (by omega);rw [e] at l ⊢;exact Ze 56 _ _ (by decide) l s)
  |(rw [Zi (x / 4294967296 / 65536) _,Lib.len8_of (x / 4294967296 / 65536) (by omega) (by omega)]
    have e:(x / 4294967296 / 65536).toNat=x.toNat / 281474976710656:=by omega
    have l:=Lib.bitLen_le8' (x / 4294967296 / 65536) (by omega) (by omega);have s:=Lib.bitLen_shift48 x.toNat (by omega) (by omega);rw [e] at l ⊢;exact Ze 48 _ _ (by decide) l s)
  |(rw [Zi (x / 4294967296 / 256) _,Lib.len8_of (x / 4294967296 / 256) (by omega) (by omega)]
    have e:(x / 4294967296 / 256).toNat=x.toNat / 1099511627776:=by omega
    have l:=Lib.bitLen_le8' (x / 4294967296 / 256) (by omega) (by omega);have s:=Lib.bitLen_shift40 x.toNat (by omega) (by omega);rw [e] at l ⊢;exact Ze 40 _ _ (by decide) l s)
  |(rw [Zi (x / 4294967296) _,Lib.len8_of (x / 4294967296) (by omega) (by omega)]
    have e:(x / 4294967296).toNat=x.toNat / 4294967296:=by omega
    have l:=Lib.bitLen_le8' (x / 4294967296) (by omega) (by omega);have s:=Lib.bitLen_shift32 x.toNat (by omega) (by omega);rw [e] at l ⊢;exact Ze 32 _ _ (by decide) l s)
  |(rw [Zi (x / 65536 / 256) _,Lib.len8_of (x / 65536 / 256) (by omega) (by omega)]
    have e:(x / 65536 / 256).toNat=x.toNat / 16777216:=by omega
    have l:=Lib.bitLen_le8' (x / 65536 / 256) (by omega) (by omega);have s:=Lib.bitLen_shift24 x.toNat (by omega) (by omega);rw [e] at l ⊢;exact Ze 24 _ _ (by decide) l s)
  |(rw [Zi (x / 65536) _,Lib.len8_of (x / 65536) (by omega) (by omega)]
    have e:(x / 65536).toNat=x.toNat / 65536:=by omega
    have l:=Lib.bitLen_le8' (x / 65536) (by omega) (by omega);have s:=Lib.bitLen_shift16 x.toNat (by omega) (by omega);rw [e] at l ⊢;exact Ze 16 _ _ (by decide) l s)
  |(rw [Zi (x / 256) _,Lib.len8_of (x / 256) (by omega) (by omega)]
    have e:(x / 256).toNat=x.toNat / 256:=by omega
    have l:=Lib.bitLen_le8' (x / 256) (by omega) (by omega);have s:=Lib.bitLen_shift8 x.toNat (by omega) (by omega);rw [e] at l ⊢;exact Ze 8 _ _ (by decide) l s)
  |(rw [Zi (x) _,Lib.len8_of (x) (by omega) (by omega)]
    have e:(x).toNat=x.toNat:=by omega
    have l:=Lib.bitLen_le8' (x) (by omega) (by omega);rw [e] at l ⊢
    first|exact Md _ l|exact Ze 0 _ _ (by decide) l (by omega)|exact wrap_one _ l)
theorem JM(x:Int)(w:World)(h0:0≤x)(h1:x≤18446744073709551615)(hb:Lib.bitLen x.toNat≤64):
  Calls Tryz.prog 222 #[.int .u64 x] w fun e w'=>e= .returned (.int .i64 (64 - (Lib.bitLen x.toNat:Int)))∧w=w':=by
 go_enter Tryz.func222,Tryz.ntmps222;go_wp2_with (go_at_call 239;refine (Lg _ _ h0 h1).mono ?_;rintro e w' ⟨rfl,rfl⟩);go_ret;exact ⟨rfl,rfl⟩
theorem LI(lo y:Int)(w:World)(hl:U64 lo)(hy:U64 y)(h0:0< y):
  Calls Tryz.prog 187 #[.int .u64 0, .int .u64 lo, .int .u64 y] w fun e w'=>e= .returned (.tuple #[.int .u64 (lo / y), .int .u64 (lo%y)])∧ ∃n,w'=w.drewN n:=by
 obtain ⟨l0,l1⟩:=hl;obtain ⟨y0,y1⟩:=hy;have c1:(y==0)=false:=by simp;omega
 have c2:decide (y≤0)=false:=by simp;omega
 go_enter Tryz.func187,Tryz.ntmps187;go_wp2;go_quiet (fail);go_wp2;go_ret2;exact ⟨rfl,_,rfl⟩
end
section
namespace DivM
theorem YF: ∀(k x:Nat),x≠0→x< 2 ^ k→k≤64→2 ^ (Lib.bitLen x)≤2*x∧x< 2 ^ (Lib.bitLen x)
 |0,x,h0,h,_=>by simp at h;omega
 |k+1,x,h0,h,hk=>by
  have h64:x< 2 ^ 64:=Nat.lt_of_lt_of_le h (Nat.pow_le_pow_right (by omega) hk);rw [Lib.bitLen_half x h0 h64];by_cases hx:x / 2=0
  ·have:x=1:=by omega
   subst this;decide
  ·have ih:=YF k (x / 2) hx (by rw [Nat.pow_succ] at h;omega) (by omega);rw [Nat.pow_add];omega
theorem bitLen_bounds(x:Nat)(h0:x≠0)(h:x< 18446744073709551616):1≤Lib.bitLen x∧Lib.bitLen x≤64:=by
 refine ⟨?_,Lib.bitLen_le x 64 (by omega) h⟩
 have:=(YF 64 x h0 h (by omega)).2
 by_cases e:Lib.bitLen x=0
 ·rw [e] at this;omega
 ·omega
theorem norm(y:Nat)(h0:y≠0)(h:y< 18446744073709551616):9223372036854775808≤y*2 ^ (64 - Lib.bitLen y)∧y*2 ^ (64 - Lib.bitLen y)< 18446744073709551616:=by
 obtain ⟨b1,b2⟩:=bitLen_bounds y h0 h;obtain ⟨s1,s2⟩:=YF 64 y h0 h (by omega);have e:2 ^ (Lib.bitLen y)*2 ^ (64 - Lib.bitLen y)=18446744073709551616:=by
  rw [←Nat.pow_add,show Lib.bitLen y+(64 - Lib.bitLen y)=64 by omega]
 have p:0< 2 ^ (64 - Lib.bitLen y):=Nat.two_pow_pos _;constructor
 ·have:=Nat.mul_le_mul_right (2 ^ (64 - Lib.bitLen y)) s1
  rw [e,Nat.mul_assoc] at this;omega
 ·have:=(Nat.mul_lt_mul_right p).2 s2
  rw [e] at this;exact this
theorem Do(s:Nat)(hs:s≤64):2 ^ s*2 ^ (64 - s)=18446744073709551616:=by
 rw [←Nat.pow_add,show s+(64 - s)=64 by omega]
theorem Lf(lo s:Nat)(hs:s≤64):lo*2 ^ s / 18446744073709551616=lo / 2 ^ (64 - s):=by
 rw [←Do s hs,Nat.mul_comm lo,Nat.mul_div_mul_left _ _ (Nat.two_pow_pos s)]
theorem IK(lo s:Nat)(hs:s≤64)(h:lo< 18446744073709551616):lo / 2 ^ (64 - s)< 2 ^ s:=by
 rw [Nat.div_lt_iff_lt_mul (Nat.two_pow_pos _),Do s hs];exact h
theorem shifted(hi lo s:Nat)(hs:s≤64):(hi*18446744073709551616+lo)*2 ^ s=(hi*2 ^ s+lo / 2 ^ (64 - s))*18446744073709551616+lo*2 ^ s%18446744073709551616:=by
 have e:=Lf lo s hs;have d:=Nat.div_add_mod (lo*2 ^ s) 18446744073709551616;rw [e] at d;rw [Nat.add_mul,Nat.add_mul,Nat.mul_right_comm];omega
theorem high_lt(hi lo y s:Nat)(hs:s≤64)(h:lo< 18446744073709551616)(hy:hi< y):hi*2 ^ s+lo / 2 ^ (64 - s)< y*2 ^ s:=by
 have a:=IK lo s hs h;have b:=Nat.mul_le_mul_right (2 ^ s) (show hi+1≤y from hy);rw [Nat.add_mul] at b;omega
theorem or_add(hi lo s:Nat)(hs:s≤64)(h:lo< 18446744073709551616):(hi*2 ^ s)|||(lo / 2 ^ (64 - s))=hi*2 ^ s+lo / 2 ^ (64 - s):=by
 rw [Nat.mul_comm hi,Nat.two_pow_add_eq_or_of_lt (IK lo s hs h)]
structure Est (U u1 y1 y0 q r:Nat):Prop where
 sum:q*y1+r=U
 low:r< 4294967296
 top:q≤4294967297
 over:(U*4294967296+u1) / (y1*4294967296+y0)≤q
theorem Est.start{U u1 y1 y0:Nat}(hy1:2147483648≤y1)(hy1':y1< 4294967296)(hy0:y0< 4294967296)(hu1:u1< 4294967296)(hU:U< y1*4294967296+y0):Est U u1 y1 y0 (U / y1) (U%y1):=by
 have m:=Nat.div_add_mod U y1;have l:=Nat.mod_lt U (show 0< y1 by omega);refine ⟨by rw [Nat.mul_comm];exact m,by omega, ?_, ?_⟩
 ·have:U / y1< 4294967298:=by
   rw [Nat.div_lt_iff_lt_mul (by omega)];omega
  omega
 ·have:(U*4294967296+u1) / (y1*4294967296+y0)< U / y1+1:=by
   rw [Nat.div_lt_iff_lt_mul (by omega),Nat.mul_add, ←Nat.mul_assoc];have c:=Nat.mul_comm y1 (U / y1);have e:(U / y1+1)*y1=U / y1*y1+y1:=by rw [Nat.add_mul,Nat.one_mul]
   rw [e];have z:=Nat.zero_le ((U / y1+1)*y0);omega
  omega
theorem FU(q y1 y0:Nat):q*(y1*4294967296+y0)=q*y1*4294967296+q*y0:=by rw [Nat.mul_add,Nat.mul_assoc]
theorem Est.done{U u1 y1 y0 q r:Nat}(h:Est U u1 y1 y0 q r)(hp:0< y1)(ht:q*y0≤4294967296*r+u1):q=(U*4294967296+u1) / (y1*4294967296+y0):=by
 apply Nat.le_antisymm _ h.over;rw [Nat.le_div_iff_mul_le (by omega),FU]
 have:=h.sum
 omega
theorem Est.gt{U u1 y1 y0 q r:Nat}(h:Est U u1 y1 y0 q r)(_hp:0< y1)(hu1:u1< 4294967296)(hU:U< y1*4294967296+y0)(ht:4294967296≤q∨4294967296*r+u1< q*y0):(U*4294967296+u1) / (y1*4294967296+y0)< q:=by
 rcases ht with ht|ht
 ·refine Nat.lt_of_lt_of_le ?_ ht;rw [Nat.div_lt_iff_lt_mul (by omega)];omega
 ·rw [Nat.div_lt_iff_lt_mul (by omega),FU]
  have:=h.sum
  omega
theorem Est.pos{U u1 y1 y0 q r:Nat}(h:Est U u1 y1 y0 q r)(hp:0< y1)(hu1:u1< 4294967296)(hU:U< y1*4294967296+y0)(ht:4294967296≤q∨4294967296*r+u1< q*y0):1≤q:=by
 have g:=h.gt hp hu1 hU ht;exact Nat.lt_of_le_of_lt (Nat.zero_le _) g
theorem PK{U y1 q r:Nat}(h:q*y1+r=U)(hq:1≤q):(q - 1)*y1+(r+y1)=U:=by
 have e:q*y1=(q - 1)*y1+y1:=by
  conv=>lhs;rw [show q=(q - 1)+1 by omega,Nat.add_mul,Nat.one_mul]
 omega
theorem Est.next{U u1 y1 y0 q r:Nat}(h:Est U u1 y1 y0 q r)(hp:0< y1)(hu1:u1< 4294967296)(hU:U< y1*4294967296+y0)(ht:4294967296≤q∨4294967296*r+u1< q*y0)(hr:r+y1< 4294967296):Est U u1 y1 y0 (q - 1) (r+y1):=by
 have g:=h.gt hp hu1 hU ht;have p:=h.pos hp hu1 hU ht;refine ⟨PK h.sum p,hr,by have:=h.top;omega, ?_⟩;generalize (U*4294967296+u1) / (y1*4294967296+y0)=t at *;omega
theorem Est.broke{U u1 y1 y0 q r:Nat}(h:Est U u1 y1 y0 q r)(hp:0< y1)(hy0:y0< 4294967296)(hu1:u1< 4294967296)(hU:U< y1*4294967296+y0)(ht:4294967296≤q∨4294967296*r+u1< q*y0)(hr:4294967296≤r+y1):q - 1=(U*4294967296+u1) / (y1*4294967296+y0):=by
 have g:=h.gt hp hu1 hU ht;have s:=PK h.sum (h.pos hp hu1 hU ht);have t:=h.top;apply Nat.le_antisymm _ (Nat.le_sub_one_of_lt g);rw [Nat.le_div_iff_mul_le (by omega),FU];have b:(q - 1)*y0≤4294967296*4294967296:=Nat.mul_le_mul (by omega) (by omega);omega
theorem GK(_V Y T W B v q r:Nat)(hT:T=W*B+v)(hd:Y*q+r=W)(_hq:q=W / Y)(_hr:r=W%Y)(hY:0< Y):
  T / Y=q*B+(r*B+v) / Y∧T%Y=(r*B+v)%Y:=by
 have e:T=(r*B+v)+Y*(q*B):=by
  rw [hT, ←hd,Nat.add_mul,Nat.mul_assoc,Nat.add_comm (Y*(q*B)),Nat.add_assoc,Nat.add_assoc,Nat.add_comm v]
 rw [e];exact ⟨(Nat.add_mul_div_left _ _ hY).trans (Nat.add_comm _ _),Nat.add_mul_mod_self_left _ _ _⟩
theorem Hw(U V W T:Int)(hT:T=U*18446744073709551616+V)(hW:W=U*4294967296+V / 4294967296):T=W*4294967296+V%4294967296:=by
 omega
theorem GV(U V W T:Nat)(hT:T=U*18446744073709551616+V)(hW:W=U*4294967296+V / 4294967296):T=W*4294967296+V%4294967296:=by
 have h:=Hw U V W T (by rw [hT,Int.natCast_add,Int.natCast_mul];rfl) (by rw [hW,Int.natCast_add,Int.natCast_mul,Int.natCast_ediv];rfl);apply Int.ofNat.inj;show (T:Int)=((W*4294967296+V%4294967296:Nat):Int);rw [Int.natCast_add,Int.natCast_mul,Int.natCast_emod];exact h
theorem GE(U V Y T W:Nat)(hY:0< Y)(hT:T=U*18446744073709551616+V)(hW:W=U*4294967296+V / 4294967296):
  T / Y=W / Y*4294967296+(W%Y*4294967296+V%4294967296) / Y∧T%Y=(W%Y*4294967296+V%4294967296)%Y:=
 GK V Y T W 4294967296 (V%4294967296) (W / Y) (W%Y) (GV U V W T hT hW) (Nat.div_add_mod W Y) rfl rfl hY
theorem whole(N y s U V T W:Nat)(hy:0< y)(hN:N*2 ^ s=T)(hT:T=U*18446744073709551616+V)(hW:W=U*4294967296+V / 4294967296):
  N / y=W / (y*2 ^ s)*4294967296+(W%(y*2 ^ s)*4294967296+V%4294967296) / (y*2 ^ s)∧
  N%y*2 ^ s=(W%(y*2 ^ s)*4294967296+V%4294967296)%(y*2 ^ s):=by
 have hp:0< 2 ^ s:=Nat.two_pow_pos s;obtain ⟨a,b⟩:=GE U V (y*2 ^ s) T W (Nat.mul_pos hy hp) hT hW;have e1:N / y=N*2 ^ s / (y*2 ^ s):=(Nat.mul_div_mul_right _ _ hp).symm;have e2:N%y*2 ^ s=N*2 ^ s%(y*2 ^ s):=(Nat.mul_mod_mul_right _ _ _).symm;rw [hN] at e1 e2;exact ⟨e1.trans a,e2.trans b⟩
theorem rem_wrap(U u1 Y:Nat)(hY:0< Y)(hY':Y< 18446744073709551616):
  ((((U:Int)*4294967296)%18446744073709551616+u1)%18446744073709551616 - ((((U*4294967296+u1) / Y:Nat):Int)*Y)%18446744073709551616)%18446744073709551616=(((U*4294967296+u1)%Y:Nat):Int):=by
 have d:=Nat.div_add_mod (U*4294967296+u1) Y;have l:=Nat.mod_lt (U*4294967296+u1) hY;rw [←Int.natCast_mul,Nat.mul_comm _ Y];generalize Y*((U*4294967296+u1) / Y)=Z at *;generalize (U*4294967296+u1)%Y=R at *;omega
end DivM
end
section
open Go.RowKit
theorem JL(y s:Nat)(w:World)(h0:y≠0)(h1:y< 18446744073709551616)(hs:s=64 - Lib.bitLen y):
  Calls Tryz.prog 222 #[.int .u64 y] w fun e w'=>e= .returned (.int .i64 s)∧w=w':=by
 obtain ⟨b1,b2⟩:=DivM.bitLen_bounds y h0 h1;refine (JM y w (by omega) (by omega) (by simpa using b2)).mono ?_;rintro e w' ⟨rfl,rfl⟩;refine ⟨?_,rfl⟩
 congr 2
 simp;omega
theorem QL(a s M:Nat)(h:a*2 ^ s%18446744073709551616=M):IntKind.u64.wrap ((a:Int)*2 ^ s)=(M:Int):=by
 rw [IntKind.wrap_u64, ←h];rw [Int.natCast_emod,Int.natCast_mul,Int.natCast_pow];rfl
theorem IM(a k M:Nat)(h:a / 2 ^ k=M):(a:Int) / 2 ^ k=(M:Int):=by
 rw [←h,Int.natCast_ediv,Int.natCast_pow];rfl
theorem orN(a b M:Nat)(ha:a< 18446744073709551616)(hb:b< 18446744073709551616)(h:a|||b=M):bits .or .u64 (a:Int) (b:Int)=(M:Int):=by
 rw [bits_or_u64_nat a b ha hb,h]
theorem EJ(a b:Nat):(a:Int) / (b:Int)=((a / b:Nat):Int):=by rw [Int.natCast_ediv]
theorem GJ(a b:Nat):(a:Int).tdiv (b:Int)=((a / b:Nat):Int):=by rw [Int.tdiv_eq_ediv_of_nonneg (by omega),Int.natCast_ediv]
theorem Me(U q y1 R:Nat)(h:q*y1+R=U)(hR:R< 18446744073709551616):IntKind.u64.wrap ((U:Int) - ((q*y1:Nat):Int))=(R:Int):=by
 rw [IntKind.wrap_u64, ←h];omega
theorem ME(U u1 Y q R:Nat)(hY:0< Y)(hY':Y< 18446744073709551616)(hq:q=(U*4294967296+u1) / Y)(hR:R=(U*4294967296+u1)%Y):
  IntKind.u64.wrap (IntKind.u64.wrap (IntKind.u64.wrap ((U:Int)*4294967296)+u1) - IntKind.u64.wrap ((q*Y:Nat):Int))=(R:Int):=by
 simp only [IntKind.wrap_u64];rw [hq,hR,Int.natCast_mul];exact DivM.rem_wrap U u1 Y hY hY'
theorem Ha{k l:IntKind}{a b c d:Int}(h1:a=c)(h2:b=d):Ending.returned (.tuple #[.int k a, .int l b])= .returned (.tuple #[.int k c, .int l d]):=by rw [h1,h2]
theorem FQ(hi lo y:Nat)(hl:lo< 18446744073709551616)(h1:hi< y):(hi*18446744073709551616+lo) / y< 18446744073709551616:=by
 rw [Nat.div_lt_iff_lt_mul (by omega)]
 have:=Nat.mul_le_mul_left 18446744073709551616 (show hi+1≤y from h1)
 omega
theorem Jp(a b c:Int)(hc:c=a*4294967296+b)(h0:0≤c)(hl:c< 18446744073709551616):((a*4294967296)%18446744073709551616+b)%18446744073709551616=c:=by omega
theorem Hc(q a b:Nat)(h:q=a*4294967296+b)(hl:q< 18446744073709551616):IntKind.u64.wrap (IntKind.u64.wrap ((a:Int)*4294967296)+(b:Int))=(q:Int):=by
 simp only [IntKind.wrap_u64];exact Jp a b q (by rw [h,Int.natCast_add,Int.natCast_mul];rfl) (by omega) (by omega)
theorem Jn(m s R:Nat)(h:m*2 ^ s=R):(R:Int) / 2 ^ s=(m:Int):=by
 apply IM;rw [←h];exact Nat.mul_div_cancel _ (Nat.two_pow_pos s)
theorem Nz(hi lo y:Nat)(w:World)(hl:lo< 18446744073709551616)(hy:y< 18446744073709551616)(h0:0< hi)(h1:hi< y):
  Calls Tryz.prog 187 #[.int .u64 hi, .int .u64 lo, .int .u64 y] w fun e w'=>e= .returned (.tuple #[.int .u64 (((hi*18446744073709551616+lo) / y:Nat):Int), .int .u64 (((hi*18446744073709551616+lo)%y:Nat):Int)])∧ ∃n,w'=w.drewN n:=by
 obtain ⟨s,hs⟩: ∃s,s=64 - Lib.bitLen y:=⟨_,rfl⟩;have hz:=fun w=>JL y s w (by omega) hy hs
 have nm:=DivM.norm y (by omega) hy;rw [←hs] at nm;have hs64:s≤64:=by omega
 have hs63:(s:Int)≤63:=by have:=(DivM.bitLen_bounds y (by omega) hy).1;omega
 have c1:((y:Int)==0)=false:=by simp;omega
 have c2:decide ((y:Int)≤hi)=false:=by simp;omega
 have c3:((hi:Int)==0)=false:=by simp;omega
 clear hs;have HZ:=Lib.hid hz;clear hz;obtain ⟨Y,hY⟩: ∃Y,Y=y*2 ^ s:=⟨_,rfl⟩;obtain ⟨U,hU⟩: ∃U,U=hi*2 ^ s+lo / 2 ^ (64 - s):=⟨_,rfl⟩;obtain ⟨V,hV⟩: ∃V,V=lo*2 ^ s%18446744073709551616:=⟨_,rfl⟩;rw [←hY] at nm;obtain ⟨nm1,nm2⟩:=nm;have hUY:U< Y:=by rw [hU,hY];exact DivM.high_lt hi lo y s hs64 hl h1
 have hVl:V< 18446744073709551616:=by rw [hV];exact Nat.mod_lt _ (by omega)
 have hX:=DivM.shifted hi lo s hs64;rw [←hU, ←hV] at hX;have hhs:hi*2 ^ s< 18446744073709551616:=by have:=Nat.le_add_right (hi*2 ^ s) (lo / 2 ^ (64 - s));omega
 have hls:lo / 2 ^ (64 - s)< 18446744073709551616:=by have:=Nat.le_add_left (lo / 2 ^ (64 - s)) (hi*2 ^ s);omega
 have f1:=QL y s Y (by rw [←hY];exact Nat.mod_eq_of_lt nm2);have f2:=QL hi s (hi*2 ^ s) (Nat.mod_eq_of_lt hhs);have f3:=IM lo (64 - s) (lo / 2 ^ (64 - s)) rfl;have f4:=orN (hi*2 ^ s) (lo / 2 ^ (64 - s)) U hhs hls (by rw [hU];exact DivM.or_add hi lo s hs64 hl);have f5:=QL lo s V hV.symm;have f6:=Mul64.maskN Y nm2;have f7:=Mul64.maskN V hVl;obtain ⟨y1,hy1⟩: ∃y1,y1=Y / 4294967296:=⟨_,rfl⟩;obtain ⟨y0,hy0⟩: ∃y0,y0=Y%4294967296:=⟨_,rfl⟩;obtain ⟨u1,hu1⟩: ∃u1,u1=V / 4294967296:=⟨_,rfl⟩;obtain ⟨u0,hu0⟩: ∃u0,u0=V%4294967296:=⟨_,rfl⟩;have hYy:Y=y1*4294967296+y0:=by omega
 have by1:2147483648≤y1:=by omega
 have by1':y1< 4294967296:=by omega
 have by0:y0< 4294967296:=by omega
 have bu1:u1< 4294967296:=by omega
 have bu0:u0< 4294967296:=by omega
 have f8:(Y:Int) / 4294967296=(y1:Int):=by omega
 have f9:(V:Int) / 4294967296=(u1:Int):=by omega
 rw [←hy0] at f6;rw [←hu0] at f7;have hUy:U< y1*4294967296+y0:=by rw [←hYy];exact hUY
 have st:=DivM.Est.start by1 by1' by0 bu1 hUy;have bq:U / y1< 18446744073709551616:=by have:=st.top;omega
 have f10:=GJ U y1;have f11:=Mul64.wrapN (U / y1) bq;have f12:=Mul64.mulN (U / y1) y1;have bm:U / y1*y1< 18446744073709551616:=by have:=st.sum;omega
 have f13:=Mul64.wrapN (U / y1*y1) bm;have f14:=Me U (U / y1) y1 (U%y1) st.sum (by have:=st.low;omega);obtain ⟨q1,hq1⟩: ∃q1,q1=(U*4294967296+u1) / Y:=⟨_,rfl⟩;obtain ⟨W,hW⟩: ∃W,W=(U*4294967296+u1)%Y:=⟨_,rfl⟩;have HW:=Lib.hid hW;have hWY:W< Y:=by rw [hW];exact Nat.mod_lt _ (by omega)
 have hWy:W< y1*4294967296+y0:=by rw [←hYy];exact hWY
 have g1:=Mul64.mulN q1 Y;have g2:=ME U u1 Y q1 W (by omega) nm2 hq1 hW;have HFW:=Lib.hid (And.intro g1 g2);have st0:=DivM.Est.start by1 by1' by0 bu0 hWy;have bq0:W / y1< 18446744073709551616:=by have:=st0.top;omega
 have bm0:W / y1*y1< 18446744073709551616:=by have:=st0.sum;omega
 have HG:=Lib.hid (And.intro (EJ W y1) (And.intro (Mul64.wrapN (W / y1) bq0) (And.intro (Mul64.mulN (W / y1) y1) (And.intro (Mul64.wrapN (W / y1*y1) bm0) (Me W (W / y1) y1 (W%y1) st0.sum (by have:=st0.low;omega))))));have HT:=Lib.hid st0;clear st0;obtain ⟨q0,hq0⟩: ∃q0,q0=(W*4294967296+u0) / Y:=⟨_,rfl⟩;obtain ⟨R,hR⟩: ∃R,R=(W*4294967296+u0)%Y:=⟨_,rfl⟩;have Hq0:=Lib.hid hq0;have HN:=Lib.hid (DivM.whole (hi*18446744073709551616+lo) y s U V _ _ (by omega) rfl hX rfl);rw [←hY, ←hu1, ←hu0, ←hq1, ←hW, ←hq0, ←hR] at HN;have g3:=ME W u0 Y q0 R (by omega) nm2 hq0 hR;have HE:=Lib.hid (And.intro (Mul64.mulN q0 Y) g3);clear g3 hq0 hR;clear g1 g2;have Hq1:=Lib.hid hq1;have HX:=Lib.hid hX;have HYy:=Lib.hid hYy;have HY:=Lib.hid hY;have HV:Hid (u1=V / 4294967296∧u0=V%4294967296):=Lib.hid ⟨hu1,hu0⟩;have HF:Hid _:=Lib.hid (And.intro f1 (And.intro f2 (And.intro f3 (And.intro f4 (And.intro f5 (And.intro f6 (And.intro f7 (And.intro f8 (And.intro f9 (And.intro f10 (And.intro f11 (And.intro f12 (And.intro f13 f14)))))))))))));have HS:=Lib.hid st;have F1:=Lib.hid f1;clear f1 f2 f3 f4 f5 f6 f7 f8 f9 f10 f11 f12 f13 f14 hY hU hV hX hy1 hy0 hu1 hu0 hYy hq1 hW st;go_enter Tryz.func187,Tryz.ntmps187;go_wp2_with fail;refine (HZ.out _).mono ?_;rintro e w' ⟨rfl,rfl⟩;go_upto_region 9 with fail
 simp only [F1.out];clear F1;go_upto_block 0 with fail
 have HF':=HF.out;obtain ⟨f1,f2,f3,f4,f5,f6,f7,f8,f9,f10,f11,f12,f13,f14⟩:=HF';simp only [f2,f3,f4,f5,f6,f7,f8,f9,f10,f11,f12,f13,f14];clear f1 f2 f3 f4 f5 f6 f7 f8 f9 f10 f11 f12 f13 f14;go_cut [15] (fun s15 wx=>s15= .int .u64 q1∧wx=w)
 case first=>
  go_wp2_with fail;go_loop [15,16] (fun q r=> ∃a b:Nat,q= .int .u64 a∧r= .int .u64 b∧DivM.Est U u1 y1 y0 a b) (fun q _=>(intOf q).toNat)
  case atStart=>exact ⟨_,_,rfl,rfl,HS.out⟩
  case round=>
   obtain ⟨a,b,rfl,rfl,he⟩:=hrel;have hlow:=he.low;have htop:=he.top;have hp:0< y1:=by omega
   by_cases hA:4294967296≤a
   ·have hg:4294967296≤a∨4294967296*b+u1< a*y0:= .inl hA;have hA':decide ((4294967296:Int)≤(a:Int))=true:=by simp;omega
    by_cases hB:4294967296≤b+y1
    ·have hr:=he.broke hp by0 bu1 hUy hg hB;have HR:Hid (a - 1=q1):=Lib.hid (by rw [Hq1.out,HYy.out];exact hr);have hB':decide ((4294967296:Int)≤(b:Int)+(y1:Int))=true:=by simp;omega
     clear hr;go_wp2;go_meet;exact ⟨congrArg (Value.int .u64) (by have:=HR.out;omega),rfl⟩
    ·have HN:=Lib.hid (he.next hp bu1 hUy hg (by omega));have hB':decide ((4294967296:Int)≤(b:Int)+(y1:Int))=false:=by simp;omega
     go_wp2;go_round
     case rel=>exact ⟨a - 1,b+y1,congrArg (Value.int .u64) (by omega),congrArg (Value.int .u64) (by omega),HN.out⟩
     case measure=>simp [intOf];omega
   ·have hA':decide ((4294967296:Int)≤(a:Int))=false:=by simp;omega
    have hm:a*y0< 18446744073709551616:=Nat.lt_of_le_of_lt (Nat.mul_le_mul (show a≤4294967295 by omega) (show y0≤4294967295 by omega)) (by decide);obtain ⟨z,hz⟩: ∃z,z=a*y0:=⟨_,rfl⟩;have hzI:(a:Int)*(y0:Int)=(z:Int):=by rw [hz,Int.natCast_mul]
    rw [←hz] at hm;by_cases hC:4294967296*b+u1< z
    ·have hg:4294967296≤a∨4294967296*b+u1< a*y0:= .inr (by rw [←hz];exact hC);have hC':decide (4294967296*(b:Int)+(u1:Int)< (z:Int))=true:=by simp;omega
     by_cases hB:4294967296≤b+y1
     ·have hr:=he.broke hp by0 bu1 hUy hg hB;have hpos:=he.pos hp bu1 hUy hg;have HR:Hid (a - 1=q1):=Lib.hid (by rw [Hq1.out,HYy.out];exact hr);have hB':decide ((4294967296:Int)≤(b:Int)+(y1:Int))=true:=by simp;omega
      clear hr hz;go_wp2;go_meet;exact ⟨congrArg (Value.int .u64) (by have:=HR.out;omega),rfl⟩
     ·have HN:=Lib.hid (he.next hp bu1 hUy hg (by omega));have hpos:=he.pos hp bu1 hUy hg;have hB':decide ((4294967296:Int)≤(b:Int)+(y1:Int))=false:=by simp;omega
      clear hz;go_wp2;go_round
      case rel=>exact ⟨a - 1,b+y1,congrArg (Value.int .u64) (by omega),congrArg (Value.int .u64) (by omega),HN.out⟩
      case measure=>simp [intOf];omega
    ·have hr:=he.done hp (by rw [←hz];omega);have HR:Hid (a=q1):=Lib.hid (by rw [Hq1.out,HYy.out];exact hr);have hC':decide (4294967296*(b:Int)+(u1:Int)< (z:Int))=false:=by simp;omega
     clear hr hz;go_wp2;go_meet;exact ⟨congrArg (Value.int .u64) (by have:=HR.out;omega),rfl⟩
 case rest=>
  obtain ⟨rfl,rfl⟩:=hcut;go_upto_region 22 with fail
  have FW:=HFW.out;obtain ⟨g1,g2⟩:=FW;simp only [g1,g2];clear g1 g2;go_upto_block 2 with fail
  have GF:=HG.out;obtain ⟨f10,f11,f12,f13,f14⟩:=GF;simp only [f10,f11,f12,f13,f14];clear f10 f11 f12 f13 f14;go_cut [18] (fun s18 wx=>s18= .int .u64 q0∧wx=wc)
  case first=>
   go_wp2_with fail;go_loop [18,16] (fun q r=> ∃a b:Nat,q= .int .u64 a∧r= .int .u64 b∧DivM.Est W u0 y1 y0 a b) (fun q _=>(intOf q).toNat)
   case atStart=>exact ⟨_,_,rfl,rfl,HT.out⟩
   case round=>
    obtain ⟨a,b,rfl,rfl,he⟩:=hrel;have hlow:=he.low;have htop:=he.top;have hp:0< y1:=by omega
    by_cases hA:4294967296≤a
    ·have hg:4294967296≤a∨4294967296*b+u0< a*y0:= .inl hA;have hA':decide ((4294967296:Int)≤(a:Int))=true:=by simp;omega
     by_cases hB:4294967296≤b+y1
     ·have hr:=he.broke hp by0 bu0 hWy hg hB;have HR:Hid (a - 1=q0):=Lib.hid (by rw [Hq0.out,HYy.out];exact hr);have hB':decide ((4294967296:Int)≤(b:Int)+(y1:Int))=true:=by simp;omega
      clear hr;go_wp2;go_meet;exact ⟨congrArg (Value.int .u64) (by have:=HR.out;omega),rfl⟩
     ·have HN:=Lib.hid (he.next hp bu0 hWy hg (by omega));have hB':decide ((4294967296:Int)≤(b:Int)+(y1:Int))=false:=by simp;omega
      go_wp2;go_round
      case rel=>exact ⟨a - 1,b+y1,congrArg (Value.int .u64) (by omega),congrArg (Value.int .u64) (by omega),HN.out⟩
      case measure=>simp [intOf];omega
    ·have hA':decide ((4294967296:Int)≤(a:Int))=false:=by simp;omega
     have hm:a*y0< 18446744073709551616:=Nat.lt_of_le_of_lt (Nat.mul_le_mul (show a≤4294967295 by omega) (show y0≤4294967295 by omega)) (by decide);obtain ⟨z,hz⟩: ∃z,z=a*y0:=⟨_,rfl⟩;have hzI:(a:Int)*(y0:Int)=(z:Int):=by rw [hz,Int.natCast_mul]
     rw [←hz] at hm;by_cases hC:4294967296*b+u0< z
     ·have hg:4294967296≤a∨4294967296*b+u0< a*y0:= .inr (by rw [←hz];exact hC);have hC':decide (4294967296*(b:Int)+(u0:Int)< (z:Int))=true:=by simp;omega
      by_cases hB:4294967296≤b+y1
      ·have hr:=he.broke hp by0 bu0 hWy hg hB;have hpos:=he.pos hp bu0 hWy hg;have HR:Hid (a - 1=q0):=Lib.hid (by rw [Hq0.out,HYy.out];exact hr);have hB':decide ((4294967296:Int)≤(b:Int)+(y1:Int))=true:=by simp;omega
       clear hr hz;go_wp2;go_meet;exact ⟨congrArg (Value.int .u64) (by have:=HR.out;omega),rfl⟩
      ·have HN:=Lib.hid (he.next hp bu0 hWy hg (by omega));have hpos:=he.pos hp bu0 hWy hg;have hB':decide ((4294967296:Int)≤(b:Int)+(y1:Int))=false:=by simp;omega
       clear hz;go_wp2;go_round
       case rel=>exact ⟨a - 1,b+y1,congrArg (Value.int .u64) (by omega),congrArg (Value.int .u64) (by omega),HN.out⟩
       case measure=>simp [intOf];omega
     ·have hr:=he.done hp (by rw [←hz];omega);have HR:Hid (a=q0):=Lib.hid (by rw [Hq0.out,HYy.out];exact hr);have hC':decide (4294967296*(b:Int)+(u0:Int)< (z:Int))=false:=by simp;omega
      clear hr hz;go_wp2;go_meet;exact ⟨congrArg (Value.int .u64) (by have:=HR.out;omega),rfl⟩
  case rest=>
   obtain ⟨rfl,rfl⟩:=hcut;go_wp2;go_ret2;obtain ⟨g1,g2⟩:=HE.out;obtain ⟨n1,n2⟩:=HN.out;refine ⟨?_,0,rfl⟩;exact Ha (Hc _ _ _ n1 (FQ hi lo y hl h1)) (by rw [g1,g2];exact Jn _ _ _ n2)
end
section
def Cg(m a b:Int):Prop:=a%m=b%m
namespace Cg
variable {m a b c d:Int}
theorem refl(m a:Int):Cg m a a:=rfl
theorem symm(h:Cg m a b):Cg m b a:=Eq.symm h
theorem trans(h:Cg m a b)(k:Cg m b c):Cg m a c:=Eq.trans h k
theorem mod(m a:Int):Cg m (a%m) a:=Int.emod_emod_of_dvd a (Int.dvd_refl m)
theorem mul(h:Cg m a b)(k:Cg m c d):Cg m (a*c) (b*d):=by
 unfold Cg at *;rw [Int.mul_emod,h,k, ←Int.mul_emod]
theorem add(h:Cg m a b)(k:Cg m c d):Cg m (a+c) (b+d):=by
 unfold Cg at *;rw [Int.add_emod,h,k, ←Int.add_emod]
theorem sub(h:Cg m a b)(k:Cg m c d):Cg m (a - c) (b - d):=by
 unfold Cg at *;rw [Int.sub_emod,h,k, ←Int.sub_emod]
theorem pow(h:Cg m a b): ∀n:Nat,Cg m (a ^ n) (b ^ n)
 |0=>by rw [Int.pow_zero,Int.pow_zero];exact refl _ _
 |n+1=>by rw [Int.pow_succ,Int.pow_succ];exact mul (pow h n) h
theorem mul_right(h:Cg m a b)(c:Int):Cg m (a*c) (b*c):=mul h (refl _ _)
theorem mul_left(h:Cg m a b)(c:Int):Cg m (c*a) (c*b):=mul (refl _ _) h
theorem of_eq(h:a=b):Cg m a b:=h ▸ refl _ _
theorem eq(h:Cg m a b)(a0:0≤a)(a1:a< m)(b0:0≤b)(b1:b< m):a=b:=by
 unfold Cg at h
 rwa [Int.emod_eq_of_lt a0 a1,Int.emod_eq_of_lt b0 b1] at h
theorem dvd(h:Cg m a b):m ∣ a - b:=Int.dvd_of_emod_eq_zero (by unfold Cg at h;rw [Int.sub_emod,h,Int.sub_self];rfl)
theorem of_dvd(h:m ∣ a - b):Cg m a b:=by
 obtain ⟨k,hk⟩:=h;have e:a=b+m*k:=by omega
 unfold Cg;rw [e,Int.add_mul_emod_self_left]
end Cg
theorem IF(x:Int)(n:Nat):(x*x) ^ n=x ^ (2*n):=by
 rw [Int.pow_mul,show x ^ 2=x*x from by rw [Int.pow_succ,Int.pow_succ,Int.pow_zero,Int.one_mul]]
theorem OE(k:Int)(h:0≤k)(h2:k%2=0):k.toNat=2*(k / 2).toNat:=by omega
theorem Mm(k:Int)(h:0≤k)(h2:k%2=1):k.toNat=2*(k / 2).toNat+1:=by omega
end
section
open Go.RowKit
theorem LJ(hi lo y:Nat)(w:World)(hl:lo< 18446744073709551616)(hy:y< 18446744073709551616)(h1:hi< y):
  Calls Tryz.prog 187 #[.int .u64 hi, .int .u64 lo, .int .u64 y] w fun e w'=>e= .returned (.tuple #[.int .u64 (((hi*18446744073709551616+lo) / y:Nat):Int), .int .u64 (((hi*18446744073709551616+lo)%y:Nat):Int)])∧ ∃n,w'=w.drewN n:=by
 by_cases h0:hi=0
 ·subst h0;refine (LI lo y w ⟨by omega,by omega⟩ ⟨by omega,by omega⟩ (by omega)).mono ?_;rintro e w' ⟨rfl,hn⟩;refine ⟨?_,hn⟩;rw [Nat.zero_mul,Nat.zero_add,Int.natCast_ediv,Int.natCast_emod]
 ·exact Nz hi lo y w hl hy (by omega) h1
def IE(hi lo y:Int):Int:=(hi*18446744073709551616+lo) / y
def XO(hi lo y:Int):Int:=(hi*18446744073709551616+lo)%y
theorem Qg(hi lo y:Int)(w:World)(h0:0≤hi)(hl0:0≤lo)(hl:lo< 18446744073709551616)(hy:y< 18446744073709551616)(h1:hi< y):
  Calls Tryz.prog 187 #[.int .u64 hi, .int .u64 lo, .int .u64 y] w fun e w'=>e= .returned (.tuple #[.int .u64 (IE hi lo y), .int .u64 (XO hi lo y)])∧ ∃n,w'=w.drewN n:=by
 obtain ⟨a,rfl⟩:=Int.eq_ofNat_of_zero_le h0;obtain ⟨b,rfl⟩:=Int.eq_ofNat_of_zero_le hl0;obtain ⟨c,rfl⟩:=Int.eq_ofNat_of_zero_le (show 0≤y by omega);refine (LJ a b c w (by omega) (by omega) (by omega)).mono ?_;rintro e w' ⟨rfl,hn⟩;refine ⟨?_,hn⟩;unfold IE XO;rw [Int.natCast_ediv,Int.natCast_emod,Int.natCast_add,Int.natCast_mul];rfl
theorem zW(a m:Int)(hm:0< m):0≤a%m∧a%m< m:=⟨Int.emod_nonneg a (by omega),Int.emod_lt_of_pos a hm⟩
end
section
open Go.RowKit
def zY(m:Int):Bool:=decide (0< m) && decide (m≤2305843009213693952)
def ZW(a b m:Int):Int:=if zY m then (a%m+b%m)%m else 0
def Ys(a b m:Int):Int:=if zY m then (a%m+m - b%m)%m else 0
theorem VK(m:Int)(w:World)(h:zY m=true):
  Calls Tryz.prog 182 #[.int .u64 m] w fun e w'=>e= .returned (.bool true)∧w=w':=by
 simp [zY] at h;obtain ⟨h1,h2⟩:=h;go_enter Tryz.func182,Tryz.ntmps182;go_wp2;go_ret;exact ⟨rfl,rfl⟩
theorem Oa(m:Int)(w:World)(h:zY m=false):
  Calls Tryz.prog 182 #[.int .u64 m] w fun e w'=>e= .returned (.bool false)∧w=w':=by
 simp [zY] at h;by_cases h0:0< m
 ·have h1:=h h0;have h2:decide (m≤2305843009213693952)=false:=by simp;omega
  go_enter Tryz.func182,Tryz.ntmps182;go_wp2;go_ret;exact ⟨by simp,rfl⟩
 ·clear h;go_enter Tryz.func182,Tryz.ntmps182;go_wp2;go_ret;exact ⟨rfl,rfl⟩
theorem Gr(a b m:Int)(w:World)(ha:U64 a)(hb:U64 b):
  Calls Tryz.prog 142 #[.int .u64 a, .int .u64 b, .int .u64 m] w fun e w'=>e= .returned (.int .u64 (ZW a b m))∧ ∃n,w'=w.drewN n:=by
 unfold U64 at ha hb;obtain ⟨ha0,ha1⟩:=ha;obtain ⟨hb0,hb1⟩:=hb;cases hm:zY m with
 |false=>
  have H:=Lib.hid hm;have hr:ZW a b m=0:=by simp [ZW,hm]
  rw [hr];clear hm hr;go_enter Tryz.func142,Tryz.ntmps142;go_wp2_with (go_at_call 182;refine (Oa _ _ H.out).mono ?_;rintro e w' ⟨rfl,rfl⟩);go_ret;exact ⟨rfl,0,rfl⟩
 |true=>
  have H:=Lib.hid hm;have hr:ZW a b m=(a%m+b%m)%m:=by simp [ZW,hm]
  rw [hr];simp [zY] at hm;obtain ⟨hm0,hm1⟩:=hm;have e1:=Int.emod_nonneg a (show m≠0 by omega);have e2:=Int.emod_lt_of_pos a hm0;have e3:=Int.emod_nonneg b (show m≠0 by omega);have e4:=Int.emod_lt_of_pos b hm0;clear hr;go_enter Tryz.func142,Tryz.ntmps142;go_wp2_with (go_at_call 182;refine (VK _ _ H.out).mono ?_;rintro e w' ⟨rfl,rfl⟩);go_quiet (fail);go_wp2;go_ret;exact ⟨rfl,_,rfl⟩
theorem Ms(a b m:Int)(w:World)(ha:U64 a)(hb:U64 b):
  Calls Tryz.prog 232 #[.int .u64 a, .int .u64 b, .int .u64 m] w fun e w'=>e= .returned (.int .u64 (Ys a b m))∧ ∃n,w'=w.drewN n:=by
 unfold U64 at ha hb;obtain ⟨ha0,ha1⟩:=ha;obtain ⟨hb0,hb1⟩:=hb;cases hm:zY m with
 |false=>
  have H:=Lib.hid hm;have hr:Ys a b m=0:=by simp [Ys,hm]
  rw [hr];clear hm hr;go_enter Tryz.func232,Tryz.ntmps232;go_wp2_with (go_at_call 182;refine (Oa _ _ H.out).mono ?_;rintro e w' ⟨rfl,rfl⟩);go_ret;exact ⟨rfl,0,rfl⟩
 |true=>
  have H:=Lib.hid hm;have hr:Ys a b m=(a%m+m - b%m)%m:=by simp [Ys,hm]
  rw [hr];simp [zY] at hm;obtain ⟨hm0,hm1⟩:=hm;have e1:=Int.emod_nonneg a (show m≠0 by omega);have e2:=Int.emod_lt_of_pos a hm0;have e3:=Int.emod_nonneg b (show m≠0 by omega);have e4:=Int.emod_lt_of_pos b hm0;clear hr;go_enter Tryz.func232,Tryz.ntmps232;go_wp2_with (go_at_call 182;refine (VK _ _ H.out).mono ?_;rintro e w' ⟨rfl,rfl⟩);go_quiet (fail);go_wp2;go_ret;exact ⟨rfl,_,rfl⟩
theorem MX(x y:Nat)(hx:x< 18446744073709551616)(hy:y< 18446744073709551616)(w:World):
  Calls Tryz.prog 183 #[.int .u64 x, .int .u64 y] w fun e w'=>e= .returned (.tuple #[.int .u64 ((x*y / 18446744073709551616:Nat):Int), .int .u64 ((x*y%18446744073709551616:Nat):Int)])∧w=w':=by
 obtain ⟨bd,bt,bw,hhi⟩:=Lib.mul64_hi x y hx hy;have ba:=Lib.half_mul_le (a:=x / 4294967296) (b:=y / 4294967296) (by omega) (by omega);have bb:=Lib.half_mul_le (a:=x / 4294967296) (b:=y%4294967296) (by omega) (by omega);have bc:=Lib.half_mul_le (a:=x%4294967296) (b:=y / 4294967296) (by omega) (by omega);have ba':x / 4294967296*(y / 4294967296)< 18446744073709551616:=by omega
 have bb':x / 4294967296*(y%4294967296)< 18446744073709551616:=by omega
 have bc':x%4294967296*(y / 4294967296)< 18446744073709551616:=by omega
 have bh1:x / 4294967296*(y / 4294967296)+(x / 4294967296*(y%4294967296)+x%4294967296*(y%4294967296) / 4294967296) / 4294967296< 18446744073709551616:=by omega
 have bh:x / 4294967296*(y / 4294967296)+(x / 4294967296*(y%4294967296)+x%4294967296*(y%4294967296) / 4294967296) / 4294967296+((x / 4294967296*(y%4294967296)+x%4294967296*(y%4294967296) / 4294967296)%4294967296+x%4294967296*(y / 4294967296)) / 4294967296< 18446744073709551616:=by omega
 go_enter Tryz.func183,Tryz.ntmps183;go_wp2;simp only [Mul64.maskN x hx,Mul64.maskN y hy,Mul64.divN,Mul64.mulN,Mul64.addN,Mul64.wrapN _ bd,Mul64.wrapN _ bb',Mul64.wrapN _ bt,Mul64.maskN _ bt,Mul64.wrapN _ bc',Mul64.wrapN _ bw,Mul64.wrapN _ ba',Mul64.wrapN _ bh1,Mul64.wrapN _ bh,Mul64.wrapM (x*y)];rw [hhi];go_ret2;exact ⟨rfl,rfl⟩
end
section
open Go.RowKit
theorem MF(hi lo y:Int)(w:World)(h0:0≤hi)(hl0:0≤lo)(hl:lo< 18446744073709551616)(hy:y< 18446744073709551616)(h1:hi< y):
  Calls Tryz.prog 184 #[.int .u64 hi, .int .u64 lo, .int .u64 y] w fun e w'=>e= .returned (.int .u64 (XO hi lo y))∧ ∃n,w'=w.drewN n:=by
 have e1:hi%y=hi:=Int.emod_eq_of_lt h0 h1;go_enter Tryz.func184,Tryz.ntmps184;go_wp2_with (go_at_call 187;refine (Qg _ _ _ _ h0 hl0 hl hy h1).mono ?_;rintro e w' ⟨rfl,n,rfl⟩);go_ret;exact ⟨rfl,_,rfl⟩
def yg(a b m:Int):Int:=if zY m then (a%m*(b%m))%m else 0
def Vh(x y:Int):Int:=x*y / 18446744073709551616
def Ht(x y:Int):Int:=x*y%18446744073709551616
theorem MY(x y:Int)(w:World)(hx0:0≤x)(hx:x< 18446744073709551616)(hy0:0≤y)(hy:y< 18446744073709551616):
  Calls Tryz.prog 183 #[.int .u64 x, .int .u64 y] w fun e w'=>e= .returned (.tuple #[.int .u64 (Vh x y), .int .u64 (Ht x y)])∧w'=w:=by
 obtain ⟨a,rfl⟩:=Int.eq_ofNat_of_zero_le hx0;obtain ⟨b,rfl⟩:=Int.eq_ofNat_of_zero_le hy0;refine (MX a b (by omega) (by omega) w).mono ?_;rintro e w' ⟨rfl,hn⟩;refine ⟨?_,hn.symm⟩;unfold Vh Ht;rw [Int.natCast_ediv,Int.natCast_emod,Int.natCast_mul];rfl
theorem Hs(x y:Int):0≤Ht x y∧Ht x y< 18446744073709551616:=zW _ _ (by decide)
theorem Ga(x y m:Int)(hx0:0≤x)(hx:x< m)(hy0:0≤y)(hy:y< m)(hm:m≤18446744073709551616):0≤Vh x y∧Vh x y< m:=by
 unfold Vh;have h0:=Int.mul_nonneg hx0 hy0;have h1:x*y< m*18446744073709551616:=Int.lt_of_le_of_lt (Int.mul_le_mul_of_nonneg_left (show y≤18446744073709551616 by omega) hx0) (by omega);exact ⟨by omega,by omega⟩
theorem DS(x y:Int):Vh x y*18446744073709551616+Ht x y=x*y:=by unfold Vh Ht;omega
theorem Jm(x y m:Int):XO (Vh x y) (Ht x y) m=x*y%m:=by unfold XO;rw [DS]
theorem Zl(a b m:Int)(w:World)(ha:U64 a)(hb:U64 b):
  Calls Tryz.prog 139 #[.int .u64 a, .int .u64 b, .int .u64 m] w fun e w'=>e= .returned (.int .u64 (yg a b m))∧ ∃n,w'=w.drewN n:=by
 unfold U64 at ha hb;obtain ⟨ha0,ha1⟩:=ha;obtain ⟨hb0,hb1⟩:=hb;cases hm:zY m with
 |false=>
  have H:=Lib.hid hm;have hr:yg a b m=0:=by simp [yg,hm]
  rw [hr];clear hm hr;go_enter Tryz.func139,Tryz.ntmps139;go_wp2_with (go_at_call 182;refine (Oa _ _ H.out).mono ?_;rintro e w' ⟨rfl,rfl⟩);go_ret;exact ⟨rfl,0,rfl⟩
 |true=>
  have H:=Lib.hid hm;have hr:yg a b m=a%m*(b%m)%m:=by simp [yg,hm]
  rw [hr];simp [zY] at hm;obtain ⟨hm0,hm1⟩:=hm;obtain ⟨e1,e2⟩:=zW a m hm0;obtain ⟨e3,e4⟩:=zW b m hm0;have HR:=Lib.hid (Jm (a%m) (b%m) m);obtain ⟨l0,l1⟩:=Hs (a%m) (b%m);obtain ⟨h0,h1⟩:=Ga (a%m) (b%m) m e1 e2 e3 e4 (by omega);clear hr;go_enter Tryz.func139,Tryz.ntmps139;go_wp2_with (go_at_call 182;refine (VK _ _ H.out).mono ?_;rintro e w' ⟨rfl,rfl⟩);go_quiet ((go_at_call 183;exact Calls.quiet_of_same (MY _ _ _ e1 (by omega) e3 (by omega))));go_wp2_with (go_at_call 184;refine (MF _ _ _ _ h0 l0 l1 (by omega) h1).mono ?_;rintro e w' ⟨rfl,n,rfl⟩);go_ret;refine ⟨?_,_,rfl⟩;exact congrArg Ending.returned (congrArg (Value.int .u64) HR.out)
def Um(a e m:Int):Int:=if zY m then a ^ e.toNat%m else 0
theorem Tr(a b m:Int)(hm:zY m=true):yg a b m=a*b%m:=by
 simp [yg,hm,Int.mul_emod]
theorem Pg(a b m:Int)(hm:zY m=true):0≤yg a b m∧yg a b m< m:=by
 rw [Tr a b m hm];simp [zY] at hm;exact zW _ _ hm.1
theorem yD(a b m:Int):U64 (yg a b m):=by
 cases hm:zY m with
 |false=>simp [yg,hm,U64]
 |true=>
  have:=Pg a b m hm
  simp [zY] at hm;unfold U64;omega
def ZF(a0 e0 m o x k:Int):Prop:=Cg m (o*x ^ k.toNat) (a0 ^ e0.toNat)
theorem ZF.start(a e m:Int):ZF a e m (1%m) a e:=((Cg.mod m 1).mul_right _).trans (Cg.of_eq (Int.one_mul _))
theorem Ts(a b m:Int)(hm:zY m=true):Cg m (yg a b m) (a*b):=by
 rw [Tr a b m hm];exact Cg.mod _ _
theorem ZF.even{a e m o x k:Int}(hm:zY m=true)(h:ZF a e m o x k)(hk:0≤k)(h2:k%2=0):ZF a e m o (yg x x m) (k / 2):=by
 refine Cg.trans ?_ h;rw [OE k hk h2, ←IF];exact ((Ts x x m hm).pow _).mul_left _
theorem ZF.odd{a e m o x k:Int}(hm:zY m=true)(h:ZF a e m o x k)(hk:0≤k)(h2:k%2=1):ZF a e m (yg o x m) (yg x x m) (k / 2):=by
 refine Cg.trans ?_ h;rw [Mm k hk h2,Int.pow_succ, ←IF];refine ((Ts o x m hm).mul ((Ts x x m hm).pow _)).trans (Cg.of_eq ?_);rw [Int.mul_assoc,Int.mul_comm x]
theorem ZF.done{a e m o x k:Int}(h:ZF a e m o x k)(hk:k=0)(h0:0≤o)(h1:o< m):o=a ^ e.toNat%m:=by
 subst hk;unfold ZF Cg at h;rw [←h];simp [Int.emod_eq_of_lt h0 h1]
theorem MJ(a e m:Int)(w:World)(ha:U64 a)(he:U64 e):
  Calls Tryz.prog 138 #[.int .u64 a, .int .u64 e, .int .u64 m] w fun e' w'=>e'= .returned (.int .u64 (Um a e m))∧ ∃n,w'=w.drewN n:=by
 cases hm:zY m with
 |false=>
  have H:=Lib.hid hm;have hr:Um a e m=0:=by simp [Um,hm]
  rw [hr];clear hm hr;go_enter Tryz.func138,Tryz.ntmps138;go_wp2_with (go_at_call 182;refine (Oa _ _ H.out).mono ?_;rintro e w' ⟨rfl,rfl⟩);go_ret;exact ⟨rfl,0,rfl⟩
 |true=>
  have H:=Lib.hid hm;have hr:Um a e m=a ^ e.toNat%m:=by simp [Um,hm]
  rw [hr];simp [zY] at hm;obtain ⟨hm0,hm1⟩:=hm;obtain ⟨e1,e2⟩:=zW 1 m hm0;have HP:=Lib.hid (ZF.start a e m);clear hr;have HA:=Lib.hid ha;obtain ⟨he0,he1⟩:=he;clear ha;go_enter Tryz.func138,Tryz.ntmps138;go_wp2_with (go_at_call 182;refine (VK _ _ H.out).mono ?_;rintro e w' ⟨rfl,rfl⟩);go_loopw [0,1,7] (fun sa se so wr=> ∃o x k:Int,so= .int .u64 o∧sa= .int .u64 x∧se= .int .u64 k∧Hid (U64 x)∧0≤o∧o< m∧0≤k∧k< 18446744073709551616∧Hid (ZF a e m o x k)∧ ∃n,wr=w.drewN n) (fun _ se _ _=>(intOf se).toNat)
  case atStart=>exact ⟨_,_,_,rfl,rfl,rfl,HA,e1,e2,he0,he1,HP,0,rfl⟩
  case round=>
   obtain ⟨o,x,k,rfl,rfl,rfl,hx,ho0,ho1,hk0,hk1,hp,n,rfl⟩:=hrel;have hb:bits BinOp.and IntKind.u64 k 1=k%2:=and_one_u64 k hk0 (by omega);by_cases h0:0< k
   ·by_cases h2:k%2=1
    ·have h2':(bits BinOp.and IntKind.u64 k 1==1)=true:=by rw [hb,h2];rfl
     have HP2:=Lib.hid (hp.out.odd H.out hk0 h2);have hbd:=Pg o x m H.out;obtain ⟨b0,b1⟩:=hbd;have HO:Hid (U64 o):=Lib.hid ⟨ho0,by omega⟩;have HX:=Lib.hid (yD x x m);clear hb h2;go_wp2_with fail;refine (Zl o x m _ HO.out hx.out).mono ?_;rintro e w' ⟨rfl,n1,rfl⟩;go_wp2_with fail;refine (Zl x x m _ hx.out hx.out).mono ?_;rintro e w' ⟨rfl,n2,rfl⟩;go_wp2;go_roundw
     case rel=>exact ⟨_,_,_,rfl,rfl,rfl,HX,b0,b1,by omega,by omega,HP2,_,rfl⟩
     case measure=>simp [intOf];omega
    ·have h2':(bits BinOp.and IntKind.u64 k 1==1)=false:=by rw [hb];simpa using h2
     have HP2:=Lib.hid (hp.out.even H.out hk0 (by omega));have HX:=Lib.hid (yD x x m);clear hb h2;go_wp2_with fail;refine (Zl x x m _ hx.out hx.out).mono ?_;rintro e w' ⟨rfl,n2,rfl⟩;go_wp2;go_roundw
     case rel=>exact ⟨_,_,_,rfl,rfl,rfl,HX,ho0,ho1,by omega,by omega,HP2,_,rfl⟩
     case measure=>simp [intOf];omega
   ·have HD:=Lib.hid (hp.out.done (by omega) ho0 ho1);go_wp2;go_ret;exact ⟨congrArg Ending.returned (congrArg (Value.int .u64) HD.out),_,rfl⟩
end
section
open Go.RowKit
instance (a:Int):Decidable (U64 a):=by unfold U64;infer_instance
theorem QW{a b:Int}(h:a=b):Ending.returned (.int .u64 a)= .returned (.int .u64 b):=by rw [h]
theorem zm{a b:Bool}(h:a=b):Ending.returned (.bool a)= .returned (.bool b):=by rw [h]
theorem zb(w:World)(n:Nat):w.grownBy (w.drewN n) none:=zf (World.grownBy.refl w none) n
structure Par where
 P:Int
 Q:Int
 G:Int
 H:Int
 Nodes:Int
 N:Int
 T:Int
 K:Int
 D:Int
 R:Int
 M:Int
 X:Int
structure Par.ok (p:Par):Prop where
 P:U64 p.P
 Q:U64 p.Q
 G:U64 p.G
 H:U64 p.H
 Nodes:I64 p.Nodes
 N:I64 p.N
 T:I64 p.T
 K:I64 p.K
 D:I64 p.D
 R:I64 p.R
 M:I64 p.M
 X:I64 p.X
abbrev Par.cells(p:Par):Array Value:= #[.int .u64 p.P, .int .u64 p.Q, .int .u64 p.G, .int .u64 p.H, .int .i64 p.Nodes, .int .i64 p.N, .int .i64 p.T, .int .i64 p.K, .int .i64 p.D, .int .i64 p.R, .int .i64 p.M, .int .i64 p.X]
abbrev Par.v(p:Par):Value:= .agg p.cells
theorem Bk.rule{w:World}{g:Nat}{t:TypeId}{cs:Array Value}(h:Bk w g t cs): ∀o,w.cell? ⟨g,o,none⟩=cs[o]? :=fun o=>h.cell o
theorem Bk.prule{w:World}{g:Nat}{t:TypeId}{p:Par}(h:Bk w g t p.cells): ∀o,w.cell? ⟨g,o,none⟩=(#[.int .u64 p.P, .int .u64 p.Q, .int .u64 p.G, .int .u64 p.H, .int .i64 p.Nodes, .int .i64 p.N, .int .i64 p.T, .int .i64 p.K, .int .i64 p.D, .int .i64 p.R, .int .i64 p.M, .int .i64 p.X]:Array Value)[o]? :=fun o=>h.cell o
theorem yP{w:World}{g:Nat}{cs:Array Value}(h: ∀o,w.cell? ⟨g,o,none⟩=cs[o]?)(hg:g< w.heap.size)(ob:Obj): ∀o,(w.alloc ob).cell? ⟨g,o,none⟩=cs[o]? :=fun o=>(World.cell?_alloc_lt w ob ⟨g,o,none⟩ hg).trans (h o)
theorem zE{w a b:World}(hg:a.grownBy b none)(h:Hid (w.grownBy a none)):Hid (w.grownBy b none):=h.out.trans hg
theorem xf{a b:World}{g:Nat}{t:TypeId}{cs:Array Value}(hg:a.grownBy b none)(h:Hid (Bk a g t cs)):Hid (Bk b g t cs):=h.out.grown hg (by simp)
def yq(P:Int)(l:List Int):Int:=l.foldl (fun x y=>yg x y P) (yg 1 1 P)
theorem QR(P:Int)(l:List Int)(k:Nat)(h:k< l.length):yq P (l.take (k+1))=yg (yq P (l.take k)) l[k] P:=by
 unfold yq;rw [List.take_succ_eq_append_getElem h,List.foldl_append];rfl
theorem yO(P:Int)(l:List Int):U64 (yq P l):=by
 unfold yq;rcases List.eq_nil_or_concat l with rfl|⟨l',x,rfl⟩
 ·exact yD _ _ _
 ·rw [List.concat_eq_append,List.foldl_append];exact yD _ _ _
theorem Rk(p:Par)(v:Value)(l:List Int)(X:Nat→Prop)(w:World)(h:Sl ze X w v l):
  Calls Tryz.prog 143 #[p.v,v] w fun e w'=>e= .returned (.int .u64 (yq p.P l))∧w.grownBy w' none:=by
 have H:=za h;obtain ⟨A,c,rfl,h1,h2⟩:=h.form;clear h;go_enter Tryz.func143,Tryz.ntmps143;go_wp2_with fail;refine (Zl 1 1 p.P _ (by decide) (by decide)).mono ?_;rintro e w' ⟨rfl,n,rfl⟩;go_wp2_with fail;have HB:Hid (w.grownBy ((w.alloc (Obj.cells p.cells 39)).drewN n) none∧Bk ((w.alloc (Obj.cells p.cells 39)).drewN n) w.heap.size 39 p.cells):=za ⟨zf (gAl w _ none) n,(Bk.new w _ _).drewN n⟩;go_loopg [5,13] l.length (fun g s5 s13 wx=> ∃j:Nat,j+g=l.length∧s13= .int .i64 j∧s5= .int .u64 (yq p.P (l.take j))∧Hid (w.grownBy wx none∧Bk wx w.heap.size 39 p.cells))
 case atStart=>exact ⟨0,by omega,rfl,rfl,HB⟩
 case round=>
  obtain ⟨j,hj,rfl,rfl,HX⟩:=hrel;cases gk with
  |zero=>
   obtain rfl:j=l.length:=by omega
   have HE:Hid (yq p.P (l.take l.length)=yq p.P l):=za (by rw [List.take_length]);go_wp2;go_ret;exact ⟨QW HE.out,HX.out.1⟩
  |succ k=>
   have hjn:(j:Int)< (l.length:Int):=by omega
   have hjN:j< l.length:=by omega
   obtain ⟨g,o,c',e,_,_,hc,hu⟩:=(H.out.kept HX.out.1).atU hjN;injection e with e1 e2 e3
   subst e1 e3;have cP:wr.cell? ⟨w.heap.size,0,none⟩=some (.int .u64 p.P):=HX.out.2.cell 0;have HS:=za (QR p.P l j hjN);have HM:=za (yO p.P (l.take j));have HU:=za hu;generalize l[j]=y at *;generalize yq p.P (l.take j)=t at *;clear hu e2;go_wp2_with fail;refine (Zl t y p.P _ HM.out HU.out).mono ?_;rintro e w' ⟨rfl,n,rfl⟩;go_wp2;go_roundg k
   case measure=>omega
   case rel=>exact ⟨j+1,by omega,by go_num,by rw [HS.out],za ⟨zf HX.out.1 n,HX.out.2.drewN n⟩⟩
end
end Go.Proofs.YtkdfjkdphdfclaaGreatDoor
