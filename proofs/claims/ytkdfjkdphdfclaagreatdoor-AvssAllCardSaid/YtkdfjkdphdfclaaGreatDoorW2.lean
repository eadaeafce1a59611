/- Part 2 of the proof of a card of AvssOne, AvssAll. -/
import Derived.Test.YtkdfjkdphdfclaaGreatDoorW1
set_option maxRecDepth 100000
set_option maxHeartbeats 16000000
set_option linter.unusedVariables false
set_option linter.unusedSimpArgs false
namespace Go.Proofs.YtkdfjkdphdfclaaGreatDoor
open Tryz
section
open Go.RowKit
theorem IE(hi lo y:Nat)(w:World)(hl:lo< 18446744073709551616)(hy:y< 18446744073709551616)(h1:hi< y):
  Calls prog 187 #[.int .u64 hi, .int .u64 lo, .int .u64 y] w fun e w'=>e= .returned (.tuple #[.int .u64 (((hi*18446744073709551616+lo) / y:Nat):Int), .int .u64 (((hi*18446744073709551616+lo)%y:Nat):Int)])∧ ∃n,w'=w.drewN n:=by
 by_cases h0:hi=0
 ·subst h0;refine (ID lo y w ⟨by omega,by omega⟩ ⟨by omega,by omega⟩ (by omega)).mono ?_;rintro e w' ⟨rfl,hn⟩;refine ⟨?_,hn⟩;rw [Nat.zero_mul,Nat.zero_add,Int.natCast_ediv,Int.natCast_emod]
 ·exact LL hi lo y w hl hy (by omega) h1
def FO(hi lo y:Int):Int:=(hi*18446744073709551616+lo) / y
def VQ(hi lo y:Int):Int:=(hi*18446744073709551616+lo)%y
theorem PI(hi lo y:Int)(w:World)(h0:0≤hi)(hl0:0≤lo)(hl:lo< 18446744073709551616)(hy:y< 18446744073709551616)(h1:hi< y):
  Calls prog 187 #[.int .u64 hi, .int .u64 lo, .int .u64 y] w fun e w'=>e= .returned (.tuple #[.int .u64 (FO hi lo y), .int .u64 (VQ hi lo y)])∧ ∃n,w'=w.drewN n:=by
 obtain ⟨a,rfl⟩:=Int.eq_ofNat_of_zero_le h0;obtain ⟨b,rfl⟩:=Int.eq_ofNat_of_zero_le hl0;obtain ⟨c,rfl⟩:=Int.eq_ofNat_of_zero_le (show 0≤y by omega);refine (IE a b c w (by omega) (by omega) (by omega)).mono ?_;rintro e w' ⟨rfl,hn⟩;refine ⟨?_,hn⟩;unfold FO VQ;rw [Int.natCast_ediv,Int.natCast_emod,Int.natCast_add,Int.natCast_mul];rfl
theorem yk(a m:Int)(hm:0< m):0≤a%m∧a%m< m:=⟨Int.emod_nonneg a (by omega),Int.emod_lt_of_pos a hm⟩
theorem Jf(hi lo y:Int)(w:World)(h0:0≤hi)(hl0:0≤lo)(hl:lo< 18446744073709551616)(hy:y< 18446744073709551616)(h1:hi< y):
  Calls prog 184 #[.int .u64 hi, .int .u64 lo, .int .u64 y] w fun e w'=>e= .returned (.int .u64 (VQ hi lo y))∧ ∃n,w'=w.drewN n:=by
 have e1:hi%y=hi:=Int.emod_eq_of_lt h0 h1;go_enter func184,ntmps184;go_wp2_with (go_at_call 187;refine (PI _ _ _ _ h0 hl0 hl hy h1).mono ?_;rintro e w' ⟨rfl,n,rfl⟩);go_ret;exact ⟨rfl,_,rfl⟩
def zR(a b m:Int):Int:=if zN m then (a%m*(b%m))%m else 0
def Mk(x y:Int):Int:=x*y / 18446744073709551616
def EU(x y:Int):Int:=x*y%18446744073709551616
theorem JK(x y:Int)(w:World)(hx0:0≤x)(hx:x< 18446744073709551616)(hy0:0≤y)(hy:y< 18446744073709551616):
  Calls prog 183 #[.int .u64 x, .int .u64 y] w fun e w'=>e= .returned (.tuple #[.int .u64 (Mk x y), .int .u64 (EU x y)])∧w'=w:=by
 obtain ⟨a,rfl⟩:=Int.eq_ofNat_of_zero_le hx0;obtain ⟨b,rfl⟩:=Int.eq_ofNat_of_zero_le hy0;refine (JJ a b (by omega) (by omega) w).mono ?_;rintro e w' ⟨rfl,hn⟩;refine ⟨?_,hn.symm⟩;unfold Mk EU;rw [Int.natCast_ediv,Int.natCast_emod,Int.natCast_mul];rfl
theorem ET(x y:Int):0≤EU x y∧EU x y< 18446744073709551616:=yk _ _ (by decide)
theorem Dg(x y m:Int)(hx0:0≤x)(hx:x< m)(hy0:0≤y)(hy:y< m)(hm:m≤18446744073709551616):0≤Mk x y∧Mk x y< m:=by
 unfold Mk;have h0:=Int.mul_nonneg hx0 hy0;have h1:x*y< m*18446744073709551616:=Int.lt_of_le_of_lt (Int.mul_le_mul_of_nonneg_left (show y≤18446744073709551616 by omega) hx0) (by omega);exact ⟨by omega,by omega⟩
theorem zaw(x y:Int):Mk x y*18446744073709551616+EU x y=x*y:=by unfold Mk EU;omega
theorem GH(x y m:Int):VQ (Mk x y) (EU x y) m=x*y%m:=by unfold VQ;rw [zaw]
theorem ZN(a b m:Int)(w:World)(ha:U64 a)(hb:U64 b):
  Calls prog 139 #[.int .u64 a, .int .u64 b, .int .u64 m] w fun e w'=>e= .returned (.int .u64 (zR a b m))∧ ∃n,w'=w.drewN n:=by
 unfold U64 at ha hb;obtain ⟨ha0,ha1⟩:=ha;obtain ⟨hb0,hb1⟩:=hb;cases hm:zN m with
 |false=>
  have H:=Lib.hid hm;have hr:zR a b m=0:=by simp [zR,hm]
  rw [hr];clear hm hr;go_enter func139,ntmps139;go_wp2_with (go_at_call 182;refine (Mf _ _ H.out).mono ?_;rintro e w' ⟨rfl,rfl⟩);go_ret;exact ⟨rfl,0,rfl⟩
 |true=>
  have H:=Lib.hid hm;have hr:zR a b m=a%m*(b%m)%m:=by simp [zR,hm]
  rw [hr];simp [zN] at hm;obtain ⟨hm0,hm1⟩:=hm;obtain ⟨e1,e2⟩:=yk a m hm0;obtain ⟨e3,e4⟩:=yk b m hm0;have HR:=Lib.hid (GH (a%m) (b%m) m);obtain ⟨l0,l1⟩:=ET (a%m) (b%m);obtain ⟨h0,h1⟩:=Dg (a%m) (b%m) m e1 e2 e3 e4 (by omega);clear hr;go_enter func139,ntmps139;go_wp2_with (go_at_call 182;refine (UR _ _ H.out).mono ?_;rintro e w' ⟨rfl,rfl⟩);go_quiet ((go_at_call 183;exact Calls.quiet_of_same (JK _ _ _ e1 (by omega) e3 (by omega))));go_wp2_with (go_at_call 184;refine (Jf _ _ _ _ h0 l0 l1 (by omega) h1).mono ?_;rintro e w' ⟨rfl,n,rfl⟩);go_ret;refine ⟨?_,_,rfl⟩;exact congrArg Ending.returned (congrArg (Value.int .u64) HR.out)
def Xr(a e m:Int):Int:=if zN m then a ^ e.toNat%m else 0
theorem yO(a b m:Int)(hm:zN m=true):zR a b m=a*b%m:=by
 simp [zR,hm,Int.mul_emod]
theorem OQ(a b m:Int)(hm:zN m=true):0≤zR a b m∧zR a b m< m:=by
 rw [yO a b m hm];simp [zN] at hm;exact yk _ _ hm.1
theorem yJ(a b m:Int):U64 (zR a b m):=by
 cases hm:zN m with
 |false=>simp [zR,hm,U64]
 |true=>
  have:=OQ a b m hm
  simp [zN] at hm;unfold U64;omega
def Yl(a0 e0 m o x k:Int):Prop:=Cg m (o*x ^ k.toNat) (a0 ^ e0.toNat)
theorem Yl.start(a e m:Int):Yl a e m (1%m) a e:=((Cg.mod m 1).mul_right _).trans (Cg.of_eq (Int.one_mul _))
theorem RK(a b m:Int)(hm:zN m=true):Cg m (zR a b m) (a*b):=by
 rw [yO a b m hm];exact Cg.mod _ _
theorem Yl.even{a e m o x k:Int}(hm:zN m=true)(h:Yl a e m o x k)(hk:0≤k)(h2:k%2=0):Yl a e m o (zR x x m) (k / 2):=by
 refine Cg.trans ?_ h;rw [MM k hk h2, ←FT];exact ((RK x x m hm).pow _).mul_left _
theorem Yl.odd{a e m o x k:Int}(hm:zN m=true)(h:Yl a e m o x k)(hk:0≤k)(h2:k%2=1):Yl a e m (zR o x m) (zR x x m) (k / 2):=by
 refine Cg.trans ?_ h;rw [KD k hk h2,Int.pow_succ, ←FT];refine ((RK o x m hm).mul ((RK x x m hm).pow _)).trans (Cg.of_eq ?_);rw [Int.mul_assoc,Int.mul_comm x]
theorem Yl.done{a e m o x k:Int}(h:Yl a e m o x k)(hk:k=0)(h0:0≤o)(h1:o< m):o=a ^ e.toNat%m:=by
 subst hk;unfold Yl Cg at h;rw [←h];simp [Int.emod_eq_of_lt h0 h1]
theorem Jn(a e m:Int)(w:World)(ha:U64 a)(he:U64 e):
  Calls prog 138 #[.int .u64 a, .int .u64 e, .int .u64 m] w fun e' w'=>e'= .returned (.int .u64 (Xr a e m))∧ ∃n,w'=w.drewN n:=by
 cases hm:zN m with
 |false=>
  have H:=Lib.hid hm;have hr:Xr a e m=0:=by simp [Xr,hm]
  rw [hr];clear hm hr;go_enter func138,ntmps138;go_wp2_with (go_at_call 182;refine (Mf _ _ H.out).mono ?_;rintro e w' ⟨rfl,rfl⟩);go_ret;exact ⟨rfl,0,rfl⟩
 |true=>
  have H:=Lib.hid hm;have hr:Xr a e m=a ^ e.toNat%m:=by simp [Xr,hm]
  rw [hr];simp [zN] at hm;obtain ⟨hm0,hm1⟩:=hm;obtain ⟨e1,e2⟩:=yk 1 m hm0;have HP:=Lib.hid (Yl.start a e m);clear hr;have HA:=Lib.hid ha;obtain ⟨he0,he1⟩:=he;clear ha;go_enter func138,ntmps138;go_wp2_with (go_at_call 182;refine (UR _ _ H.out).mono ?_;rintro e w' ⟨rfl,rfl⟩);go_loopw [0,1,7] (fun sa se so wr=> ∃o x k:Int,so= .int .u64 o∧sa= .int .u64 x∧se= .int .u64 k∧Hid (U64 x)∧0≤o∧o< m∧0≤k∧k< 18446744073709551616∧Hid (Yl a e m o x k)∧ ∃n,wr=w.drewN n) (fun _ se _ _=>(intOf se).toNat)
  case atStart=>exact ⟨_,_,_,rfl,rfl,rfl,HA,e1,e2,he0,he1,HP,0,rfl⟩
  case round=>
   obtain ⟨o,x,k,rfl,rfl,rfl,hx,ho0,ho1,hk0,hk1,hp,n,rfl⟩:=hrel;have hb:bits BinOp.and IntKind.u64 k 1=k%2:=and_one_u64 k hk0 (by omega);by_cases h0:0< k
   ·by_cases h2:k%2=1
    ·have h2':(bits BinOp.and IntKind.u64 k 1==1)=true:=by rw [hb,h2];rfl
     have HP2:=Lib.hid (hp.out.odd H.out hk0 h2);have hbd:=OQ o x m H.out;obtain ⟨b0,b1⟩:=hbd;have HO:Hid (U64 o):=Lib.hid ⟨ho0,by omega⟩;have HX:=Lib.hid (yJ x x m);clear hb h2;go_wp2_with fail;refine (ZN o x m _ HO.out hx.out).mono ?_;rintro e w' ⟨rfl,n1,rfl⟩;go_wp2_with fail;refine (ZN x x m _ hx.out hx.out).mono ?_;rintro e w' ⟨rfl,n2,rfl⟩;go_wp2;go_roundw
     case rel=>exact ⟨_,_,_,rfl,rfl,rfl,HX,b0,b1,by omega,by omega,HP2,_,rfl⟩
     case measure=>simp [intOf];omega
    ·have h2':(bits BinOp.and IntKind.u64 k 1==1)=false:=by rw [hb];simpa using h2
     have HP2:=Lib.hid (hp.out.even H.out hk0 (by omega));have HX:=Lib.hid (yJ x x m);clear hb h2;go_wp2_with fail;refine (ZN x x m _ hx.out hx.out).mono ?_;rintro e w' ⟨rfl,n2,rfl⟩;go_wp2;go_roundw
     case rel=>exact ⟨_,_,_,rfl,rfl,rfl,HX,ho0,ho1,by omega,by omega,HP2,_,rfl⟩
     case measure=>simp [intOf];omega
   ·have HD:=Lib.hid (hp.out.done (by omega) ho0 ho1);go_wp2;go_ret;exact ⟨congrArg Ending.returned (congrArg (Value.int .u64) HD.out),_,rfl⟩
instance (a:Int):Decidable (U64 a):=by unfold U64;infer_instance
theorem OF{a b:Int}(h:a=b):Ending.returned (.int .u64 a)= .returned (.int .u64 b):=by rw [h]
theorem zn{a b:Bool}(h:a=b):Ending.returned (.bool a)= .returned (.bool b):=by rw [h]
theorem zb(w:World)(n:Nat):w.grownBy (w.drewN n) none:=zg (gRr w none) n
structure Par where
 P:Int
 Q:Int
 G:Int
 H:Int
 Nodes:Int
 N:Int
 T:Int
 K:Int
 D:Int
 R:Int
 M:Int
 X:Int
structure Par.ok (p:Par):Prop where
 P:U64 p.P
 Q:U64 p.Q
 G:U64 p.G
 H:U64 p.H
 Nodes:I64 p.Nodes
 N:I64 p.N
 T:I64 p.T
 K:I64 p.K
 D:I64 p.D
 R:I64 p.R
 M:I64 p.M
 X:I64 p.X
abbrev Par.cells(p:Par):Array Value:= #[.int .u64 p.P, .int .u64 p.Q, .int .u64 p.G, .int .u64 p.H, .int .i64 p.Nodes, .int .i64 p.N, .int .i64 p.T, .int .i64 p.K, .int .i64 p.D, .int .i64 p.R, .int .i64 p.M, .int .i64 p.X]
abbrev Par.v(p:Par):Value:= .agg p.cells
theorem Bk.rule{w:World}{g:Nat}{t:TypeId}{cs:Array Value}(h:Bk w g t cs): ∀o,w.cell? ⟨g,o,none⟩=cs[o]? :=fun o=>h.cell o
theorem Bk.prule{w:World}{g:Nat}{t:TypeId}{p:Par}(h:Bk w g t p.cells): ∀o,w.cell? ⟨g,o,none⟩=(#[.int .u64 p.P, .int .u64 p.Q, .int .u64 p.G, .int .u64 p.H, .int .i64 p.Nodes, .int .i64 p.N, .int .i64 p.T, .int .i64 p.K, .int .i64 p.D, .int .i64 p.R, .int .i64 p.M, .int .i64 p.X]:Array Value)[o]? :=fun o=>h.cell o
theorem xq{w:World}{g:Nat}{cs:Array Value}(h: ∀o,w.cell? ⟨g,o,none⟩=cs[o]?)(hg:g< w.heap.size)(ob:Obj): ∀o,(w.alloc ob).cell? ⟨g,o,none⟩=cs[o]? :=fun o=>(World.cell?_alloc_lt w ob ⟨g,o,none⟩ hg).trans (h o)
theorem zK{w a b:World}(hg:a.grownBy b none)(h:Hid (w.grownBy a none)):Hid (w.grownBy b none):=h.out.trans hg
theorem xD{a b:World}{g:Nat}{t:TypeId}{cs:Array Value}(hg:a.grownBy b none)(h:Hid (Bk a g t cs)):Hid (Bk b g t cs):=h.out.grown hg (by simp)
def yp(P:Int)(l:List Int):Int:=l.foldl (fun x y=>zR x y P) (zR 1 1 P)
theorem OA(P:Int)(l:List Int)(k:Nat)(h:k< l.length):yp P (l.take (k+1))=zR (yp P (l.take k)) l[k] P:=by
 unfold yp;rw [tSg h,List.foldl_append];rfl
theorem xo(P:Int)(l:List Int):U64 (yp P l):=by
 unfold yp;rcases List.eq_nil_or_concat l with rfl|⟨l',x,rfl⟩
 ·exact yJ _ _ _
 ·rw [List.concat_eq_append,List.foldl_append];exact yJ _ _ _
theorem QH(p:Par)(v:Value)(l:List Int)(X:Nat→Prop)(w:World)(h:Sl ze X w v l):
  Calls prog 143 #[p.v,v] w fun e w'=>e= .returned (.int .u64 (yp p.P l))∧w.grownBy w' none:=by
 have H:=za h;obtain ⟨A,c,rfl,h1,h2⟩:=h.form;clear h;go_enter func143,ntmps143;go_wp2_with fail;refine (ZN 1 1 p.P _ (by decide) (by decide)).mono ?_;rintro e w' ⟨rfl,n,rfl⟩;go_wp2_with fail;have HB:Hid (w.grownBy ((w.alloc (Obj.cells p.cells 39)).drewN n) none∧Bk ((w.alloc (Obj.cells p.cells 39)).drewN n) w.heap.size 39 p.cells):=za ⟨zg (gAl w _ none) n,(Bk.new w _ _).drewN n⟩;go_loopg [5,13] l.length (fun g s5 s13 wx=> ∃j:Nat,j+g=l.length∧s13= .int .i64 j∧s5= .int .u64 (yp p.P (l.take j))∧Hid (w.grownBy wx none∧Bk wx w.heap.size 39 p.cells))
 case atStart=>exact ⟨0,by omega,rfl,rfl,HB⟩
 case round=>
  obtain ⟨j,hj,rfl,rfl,HX⟩:=hrel;cases gk with
  |zero=>
   obtain rfl:j=l.length:=by omega
   have HE:Hid (yp p.P (l.take l.length)=yp p.P l):=za (by rw [List.take_length]);go_wp2;go_ret;exact ⟨OF HE.z,HX.z.1⟩
  |succ k=>
   have hjn:(j:Int)< (l.length:Int):=by omega
   have hjN:j< l.length:=by omega
   obtain ⟨g,o,c',e,_,_,hc,hu⟩:=(H.out.kept HX.z.1).atU hjN;injection e with e1 e2 e3
   subst e1 e3;have cP:wr.cell? ⟨w.heap.size,0,none⟩=some (.int .u64 p.P):=HX.z.2.cell 0;have HS:=za (OA p.P l j hjN);have HM:=za (xo p.P (l.take j));have HU:=za hu;generalize l[j]=y at *;generalize yp p.P (l.take j)=t at *;clear hu e2;go_wp2_with fail;refine (ZN t y p.P _ HM.z HU.z).mono ?_;rintro e w' ⟨rfl,n,rfl⟩;go_wp2;go_roundg k
   case measure=>omega
   case rel=>exact ⟨j+1,by omega,by go_num,by rw [HS.z],za ⟨zg HX.z.1 n,HX.z.2.drewN n⟩⟩
theorem Vf(v:Value)(l:List Int)(n k:Nat)(X Y:Nat→Prop)(w:World)(h:Sl ze X w v l)(hn:1≤n)(hl:l.length=k*n)(hb:l.length≤100000)(hY: ∀g,w.heap.size≤g→Y g)(t0: ∀cs y w',Enc.rep ze (fun g=>X g∧g< w.heap.size) w' cs y→Enc.rep ze (fun g=>Y g∧g< w.heap.size) w' cs y):
  Calls prog 200 #[v, .int .i64 n] w (zY (Zd ze) Y w (chk n l k)):=by
 have hk:k≤100000:=by
  have:k*1≤k*n:=Nat.mul_le_mul_left k hn
  omega
 have p0:k≠0→n≤100000:=fun h0=>by
  have:1*n≤k*n:=Nat.mul_le_mul_right n (by omega)
  omega
 have HL:=za hl;have M0:=za p0;have HY:=za hY;have G0:=za t0;have k0:Hid (Sl ze X w v (l.drop (0*n))∧Acc (Zd ze) w.heap.size 31 Y w (.slice none 0 0) (chk n l 0)∧w.grownBy w none):=za ⟨by simpa using h,Acc.nil _ _ _ _ _,gRr w none⟩;clear h hl p0 hY t0 hb;go_enter func200,ntmps200;go_wp2_with fail;go_loopg [0,5] k (fun g s0 s5 wx=> ∃j:Nat,j+g=k∧Hid (Sl ze X w s0 (l.drop (j*n))∧Acc (Zd ze) w.heap.size 31 Y wx s5 (chk n l j)∧w.grownBy wx none))
 case atStart=>exact ⟨0,by omega,k0⟩
 case round=>
  obtain ⟨j,hj,HX⟩:=hrel;cases gk with
  |zero=>
   obtain rfl:j=k:=by omega
   obtain ⟨hs,b0,hg⟩:=HX.z;obtain ⟨A,c,rfl,_,_⟩:=hs.form;have h0:(l.drop (j*n)).length=0:=by rw [List.length_drop,HL.z];omega
   rw [h0];have HR:Hid (Sl (Zd ze) Y wr u5 (chk n l j)):=za b0.sl;have HG:=za hg;clear hs b0 hg HX h0 k0;go_wp2;go_ret;exact ⟨_,rfl,HR.z,HG.z⟩
  |succ m=>
   obtain ⟨hs,b0,hg⟩:=HX.z;have d0:(j+1+m)*n=j*n+n+m*n:=by rw [Nat.add_mul,Nat.add_mul,Nat.one_mul]
   have f0:l.length=j*n+n+m*n:=by rw [HL.z, ←hj, ←d0];congr 1;omega
   have hd:(l.drop (j*n)).length=n+m*n:=by rw [List.length_drop];omega
   obtain ⟨A,c,e0,r0,V0⟩:=hs.form;subst e0;obtain ⟨ga,oa,eA,T0,_⟩:=hs.addr (by omega);subst eA;have H0:Hid (Sl ze X w (.slice (some ⟨ga,oa,none⟩) n c) ((l.drop (j*n)).take n)):=za (hs.take n (by omega));have y0:Hid (Sl ze X w (.slice (some ⟨ga,oa+n,none⟩) (n+m*n - n) (c - n)) (l.drop ((j+1)*n))):=za (by
    rw [hd] at hs
    have:=hs.drop n (by omega)
    rwa [List.drop_drop,show j*n+n=(j+1)*n by rw [Nat.add_mul,Nat.one_mul],show n*Enc.size ze=n from Nat.mul_one n] at this)
   have O0:Hid (m=0→l.drop ((j+1)*n)= []):=za (fun hm=>List.drop_eq_nil_of_le (by rw [f0,hm,Nat.add_mul];omega));have j0:Hid (((l.drop (j*n)).take n).length=n):=za (by rw [lLt,hd];omega);rw [hd] at r0 ⊢;have S0:n≤100000:=M0.z (by omega);have A0:=za b0;have HG:=za hg;have I0:=za (Qf n l j);have P0:=za (zH n l j);obtain ⟨q,hq⟩:=exq (n+m*n);rw [←hq] at r0 ⊢;have R0:n≤q:=by omega
   clear hs b0 hg HX hd f0 d0 k0;have HQ:=za hq;have i1:(0:Int)< (q:Int):=by omega
   have i2:(n:Int)≤(q:Int):=by omega
   have i3:(n:Int)≤(c:Int):=by omega
   have i4:(0:Int)≤(n:Int):=by omega
   clear hq;have m0:Hid (∀g,u5.ownBlock=some g→w.heap.size≤g∧g< wr.heap.size):=za A0.z.lt;have HZ:Hid (∀cs y,Enc.rep ze (fun g=>X g∧g< w.heap.size) (wr.alloc (.cells #[] 22)) cs y→Enc.rep ze (fun g=>(Y g∧some g≠u5.ownBlock)∧some g≠(Value.slice (some ⟨wr.heap.size,0,none⟩) 0 0).ownBlock) (wr.alloc (.cells #[] 22)) cs y):=
    za (fun cs y hr=>Enc.more _ (G0.z _ _ _ hr) fun g _ hg=>⟨⟨hg.1,fun e=>by have:=m0.z g e.symm;have:=hg.2;omega⟩,fun e=>by simp [Value.ownBlock] at e;have:=hg.2;have:=HG.z.size;omega⟩)
   have J0:Hid (Sl ze (fun g=>X g∧g< w.heap.size) (wr.alloc (.cells #[] 22)) (.slice (some ⟨ga,oa,none⟩) n c) ((l.drop (j*n)).take n)):=za (H0.z.bounded.kept (HG.z.trans (gAl wr _ none)));have Q0:Hid ((([]:List Int).length+((l.drop (j*n)).take n).length)*8≤140737488355328):=za (by rw [j0.z];simp;omega);have L0:Hid (∀g,(wr.alloc (.cells #[] 22)).heap.size≤g→Y g∧some g≠u5.ownBlock):=za (fun g hg=>⟨HY.z g (by have:=HG.z.size;simp at hg;omega),fun e=>by have:=m0.z g e.symm;simp at hg;omega⟩);go_wp2_with (at_builtin;refine xM rfl (.tmp 13) (.tmp 16) rfl (E:=ze) xK (Acc.made _ wr 22 (nRf _) (fun g=>Y g∧some g≠u5.ownBlock) ⟨HY.z _ HG.z.size,fun e=>by have:=m0.z _ e.symm;omega⟩) rfl rfl J0.z HZ.z Q0.z (by simp) L0.z ?_);intro v1 w1 a0 q0 F0;obtain ⟨A1,c1,e1,_,_⟩:=a0.sl.form;rw [j0.z] at e1;subst e1;have Z0:=za a0;have n0:Hid (wr.grownBy w1 none):=za (zz (gAl wr _ none) q0 (fun g e=>by simp [Value.ownBlock] at e;omega));have l0:Hid (Enc.rep (Zd ze) (fun g=>Y g∧some g≠u5.ownBlock) w1 [.slice A1 n c1] ((l.drop (j*n)).take n)):=za (by
    have C0:0< ((l.drop (j*n)).take n).length:=by rw [j0.z];omega
    exact ⟨_,rfl,a0.sl,a0.wr C0⟩)
   clear a0 q0 F0;have N0:Hid (((chk n l j).length+1)*24≤140737488355328):=za (by rw [P0.z];omega);have g0:=za (A0.z.kept n0.z);have v0:=za (HG.z.trans n0.z);have z0:Hid (w.heap.size≤w1.heap.size):=za v0.z.size;have K0:Hid (∀g,w1.heap.size≤g→Y g):=za (fun g hg=>HY.z g (nLT z0.z hg));go_wp2_with (at_builtin;refine zW rfl (.tmp 12) (.tmp 18) rfl (E:=Zd ze) Zx g0.z rfl rfl l0.z N0.z z0.z K0.z ?_);intro v2 w2 c0 i0 D0;have u0:Hid (w.grownBy w2 none):=za (zz v0.z i0 (fun g e=>(g0.z.lt g e).1));have Y0:Hid (wr.grownBy w2 u5.ownBlock):=za ((yT n0.z).trans i0);have B0:Hid (Acc (Zd ze) w.heap.size 31 Y w2 v2 (chk n l (j+1))):=za (by rw [I0.z];exact c0);clear c0 i0 D0;have HE:Hid (c=n→l.drop ((j+1)*n)= []):=za (fun U0=>O0.z (by
    rcases Nat.eq_zero_or_pos m with h|h
    ·exact h
    ·have:=Nat.mul_le_mul h (nRf n)
     have:=HQ.z
     omega))
   have o0:Hid (Sl ze X w (.slice (some ⟨ga,oa+n,none⟩) (q - n) (c - n)) (l.drop ((j+1)*n))):=za (by rw [HQ.z];exact y0.z);clear y0;go_wp2_with fail
   all_goals
    go_roundg m
    case measure=>omega
    case rel=>first|exact ⟨j+1,by omega,za ⟨o0.z,B0.z,u0.z⟩⟩|exact ⟨j+1,by omega,za ⟨by rw [HE.z (by assumption),show q - n=0 by omega];exact Sl.empty _ _ _ _ _ (by omega),B0.z,u0.z⟩⟩
theorem Uq(v:Value)(l:List (List Int))(n k:Nat)(X Y:Nat→Prop)(w:World)(h:Sl (Zd ze) X w v l)(hn:1≤n)(hl:l.length=k*n)(hb:l.length≤100000)(hY: ∀g,w.heap.size≤g→Y g)(t0: ∀cs y w',Enc.rep (Zd ze) (fun g=>X g∧g< w.heap.size) w' cs y→Enc.rep (Zd ze) (fun g=>Y g∧g< w.heap.size) w' cs y):
  Calls prog 199 #[v, .int .i64 n] w (zY (Zd (Zd ze)) Y w (chk n l k)):=by
 have hk:k≤100000:=by
  have:k*1≤k*n:=Nat.mul_le_mul_left k hn
  omega
 have p0:k≠0→n≤100000:=fun h0=>by
  have:1*n≤k*n:=Nat.mul_le_mul_right n (by omega)
  omega
 have HL:=za hl;have M0:=za p0;have HY:=za hY;have G0:=za t0;have k0:Hid (Sl (Zd ze) X w v (l.drop (0*n))∧Acc (Zd (Zd ze)) w.heap.size 43 Y w (.slice none 0 0) (chk n l 0)∧w.grownBy w none):=za ⟨by simpa using h,Acc.nil _ _ _ _ _,gRr w none⟩;clear h hl p0 hY t0 hb;go_enter func199,ntmps199;go_wp2_with fail;go_loopg [0,5] k (fun g s0 s5 wx=> ∃j:Nat,j+g=k∧Hid (Sl (Zd ze) X w s0 (l.drop (j*n))∧Acc (Zd (Zd ze)) w.heap.size 43 Y wx s5 (chk n l j)∧w.grownBy wx none))
 case atStart=>exact ⟨0,by omega,k0⟩
 case round=>
  obtain ⟨j,hj,HX⟩:=hrel;cases gk with
  |zero=>
   obtain rfl:j=k:=by omega
   obtain ⟨hs,b0,hg⟩:=HX.z;obtain ⟨A,c,rfl,_,_⟩:=hs.form;have h0:(l.drop (j*n)).length=0:=by rw [List.length_drop,HL.z];omega
   rw [h0];have HR:Hid (Sl (Zd (Zd ze)) Y wr u5 (chk n l j)):=za b0.sl;have HG:=za hg;clear hs b0 hg HX h0 k0;go_wp2;go_ret;exact ⟨_,rfl,HR.z,HG.z⟩
  |succ m=>
   obtain ⟨hs,b0,hg⟩:=HX.z;have d0:(j+1+m)*n=j*n+n+m*n:=by rw [Nat.add_mul,Nat.add_mul,Nat.one_mul]
   have f0:l.length=j*n+n+m*n:=by rw [HL.z, ←hj, ←d0];congr 1;omega
   have hd:(l.drop (j*n)).length=n+m*n:=by rw [List.length_drop];omega
   obtain ⟨A,c,e0,r0,V0⟩:=hs.form;subst e0;obtain ⟨ga,oa,eA,T0,_⟩:=hs.addr (by omega);subst eA;have H0:Hid (Sl (Zd ze) X w (.slice (some ⟨ga,oa,none⟩) n c) ((l.drop (j*n)).take n)):=za (hs.take n (by omega));have y0:Hid (Sl (Zd ze) X w (.slice (some ⟨ga,oa+n,none⟩) (n+m*n - n) (c - n)) (l.drop ((j+1)*n))):=za (by
    rw [hd] at hs
    have:=hs.drop n (by omega)
    rwa [List.drop_drop,show j*n+n=(j+1)*n by rw [Nat.add_mul,Nat.one_mul],show n*Enc.size (Zd ze)=n from Nat.mul_one n] at this)
   have O0:Hid (m=0→l.drop ((j+1)*n)= []):=za (fun hm=>List.drop_eq_nil_of_le (by rw [f0,hm,Nat.add_mul];omega));have j0:Hid (((l.drop (j*n)).take n).length=n):=za (by rw [lLt,hd];omega);rw [hd] at r0 ⊢;have S0:n≤100000:=M0.z (by omega);have A0:=za b0;have HG:=za hg;have I0:=za (Qf n l j);have P0:=za (zH n l j);obtain ⟨q,hq⟩:=exq (n+m*n);rw [←hq] at r0 ⊢;have R0:n≤q:=by omega
   clear hs b0 hg HX hd f0 d0 k0;have HQ:=za hq;have i1:(0:Int)< (q:Int):=by omega
   have i2:(n:Int)≤(q:Int):=by omega
   have i3:(n:Int)≤(c:Int):=by omega
   have i4:(0:Int)≤(n:Int):=by omega
   clear hq;have m0:Hid (∀g,u5.ownBlock=some g→w.heap.size≤g∧g< wr.heap.size):=za A0.z.lt;have HZ:Hid (∀cs y,Enc.rep (Zd ze) (fun g=>X g∧g< w.heap.size) (wr.alloc (.cells #[] 31)) cs y→Enc.rep (Zd ze) (fun g=>(Y g∧some g≠u5.ownBlock)∧some g≠(Value.slice (some ⟨wr.heap.size,0,none⟩) 0 0).ownBlock) (wr.alloc (.cells #[] 31)) cs y):=
    za (fun cs y hr=>Enc.more _ (G0.z _ _ _ hr) fun g _ hg=>⟨⟨hg.1,fun e=>by have:=m0.z g e.symm;have:=hg.2;omega⟩,fun e=>by simp [Value.ownBlock] at e;have:=hg.2;have:=HG.z.size;omega⟩)
   have J0:Hid (Sl (Zd ze) (fun g=>X g∧g< w.heap.size) (wr.alloc (.cells #[] 31)) (.slice (some ⟨ga,oa,none⟩) n c) ((l.drop (j*n)).take n)):=za (H0.z.bounded.kept (HG.z.trans (gAl wr _ none)));have Q0:Hid ((([]:List (List Int)).length+((l.drop (j*n)).take n).length)*24≤140737488355328):=za (by rw [j0.z];simp;omega);have L0:Hid (∀g,(wr.alloc (.cells #[] 31)).heap.size≤g→Y g∧some g≠u5.ownBlock):=za (fun g hg=>⟨HY.z g (by have:=HG.z.size;simp at hg;omega),fun e=>by have:=m0.z g e.symm;simp at hg;omega⟩);go_wp2_with (at_builtin;refine xM rfl (.tmp 13) (.tmp 16) rfl (E:=(Zd ze)) Zx (Acc.made _ wr 31 (nRf _) (fun g=>Y g∧some g≠u5.ownBlock) ⟨HY.z _ HG.z.size,fun e=>by have:=m0.z _ e.symm;omega⟩) rfl rfl J0.z HZ.z Q0.z (by simp) L0.z ?_);intro v1 w1 a0 q0 F0;obtain ⟨A1,c1,e1,_,_⟩:=a0.sl.form;rw [j0.z] at e1;subst e1;have Z0:=za a0;have n0:Hid (wr.grownBy w1 none):=za (zz (gAl wr _ none) q0 (fun g e=>by simp [Value.ownBlock] at e;omega));have l0:Hid (Enc.rep (Zd (Zd ze)) (fun g=>Y g∧some g≠u5.ownBlock) w1 [.slice A1 n c1] ((l.drop (j*n)).take n)):=za (by
    have C0:0< ((l.drop (j*n)).take n).length:=by rw [j0.z];omega
    exact ⟨_,rfl,a0.sl,a0.wr C0⟩)
   clear a0 q0 F0;have N0:Hid (((chk n l j).length+1)*24≤140737488355328):=za (by rw [P0.z];omega);have g0:=za (A0.z.kept n0.z);have v0:=za (HG.z.trans n0.z);have z0:Hid (w.heap.size≤w1.heap.size):=za v0.z.size;have K0:Hid (∀g,w1.heap.size≤g→Y g):=za (fun g hg=>HY.z g (nLT z0.z hg));go_wp2_with (at_builtin;refine zW rfl (.tmp 12) (.tmp 18) rfl (E:=Zd (Zd ze)) Xw g0.z rfl rfl l0.z N0.z z0.z K0.z ?_);intro v2 w2 c0 i0 D0;have u0:Hid (w.grownBy w2 none):=za (zz v0.z i0 (fun g e=>(g0.z.lt g e).1));have Y0:Hid (wr.grownBy w2 u5.ownBlock):=za ((yT n0.z).trans i0);have B0:Hid (Acc (Zd (Zd ze)) w.heap.size 43 Y w2 v2 (chk n l (j+1))):=za (by rw [I0.z];exact c0);clear c0 i0 D0;have HE:Hid (c=n→l.drop ((j+1)*n)= []):=za (fun U0=>O0.z (by
    rcases Nat.eq_zero_or_pos m with h|h
    ·exact h
    ·have:=Nat.mul_le_mul h (nRf n)
     have:=HQ.z
     omega))
   have o0:Hid (Sl (Zd ze) X w (.slice (some ⟨ga,oa+n,none⟩) (q - n) (c - n)) (l.drop ((j+1)*n))):=za (by rw [HQ.z];exact y0.z);clear y0;go_wp2_with fail
   all_goals
    go_roundg m
    case measure=>omega
    case rel=>first|exact ⟨j+1,by omega,za ⟨o0.z,B0.z,u0.z⟩⟩|exact ⟨j+1,by omega,za ⟨by rw [HE.z (by assumption),show q - n=0 by omega];exact Sl.empty _ _ _ _ _ (by omega),B0.z,u0.z⟩⟩
theorem Fs(v:Value)(l:List (Int×Int))(n k:Nat)(X Y:Nat→Prop)(w:World)(h:Sl zo X w v l)(hn:1≤n)(hl:l.length=k*n)(hb:l.length≤100000)(hY: ∀g,w.heap.size≤g→Y g)(t0: ∀cs y w',Enc.rep zo (fun g=>X g∧g< w.heap.size) w' cs y→Enc.rep zo (fun g=>Y g∧g< w.heap.size) w' cs y):
  Calls prog 224 #[v, .int .i64 n] w (zY (Zd zo) Y w (chk n l k)):=by
 have hk:k≤100000:=by
  have:k*1≤k*n:=Nat.mul_le_mul_left k hn
  omega
 have p0:k≠0→n≤100000:=fun h0=>by
  have:1*n≤k*n:=Nat.mul_le_mul_right n (by omega)
  omega
 have HL:=za hl;have M0:=za p0;have HY:=za hY;have G0:=za t0;have k0:Hid (Sl zo X w v (l.drop (0*n))∧Acc (Zd zo) w.heap.size 72 Y w (.slice none 0 0) (chk n l 0)∧w.grownBy w none):=za ⟨by simpa using h,Acc.nil _ _ _ _ _,gRr w none⟩;clear h hl p0 hY t0 hb;go_enter func224,ntmps224;go_wp2_with fail;go_loopg [0,5] k (fun g s0 s5 wx=> ∃j:Nat,j+g=k∧Hid (Sl zo X w s0 (l.drop (j*n))∧Acc (Zd zo) w.heap.size 72 Y wx s5 (chk n l j)∧w.grownBy wx none))
 case atStart=>exact ⟨0,by omega,k0⟩
 case round=>
  obtain ⟨j,hj,HX⟩:=hrel;cases gk with
  |zero=>
   obtain rfl:j=k:=by omega
   obtain ⟨hs,b0,hg⟩:=HX.z;obtain ⟨A,c,rfl,_,_⟩:=hs.form;have h0:(l.drop (j*n)).length=0:=by rw [List.length_drop,HL.z];omega
   rw [h0];have HR:Hid (Sl (Zd zo) Y wr u5 (chk n l j)):=za b0.sl;have HG:=za hg;clear hs b0 hg HX h0 k0;go_wp2;go_ret;exact ⟨_,rfl,HR.z,HG.z⟩
  |succ m=>
   obtain ⟨hs,b0,hg⟩:=HX.z;have d0:(j+1+m)*n=j*n+n+m*n:=by rw [Nat.add_mul,Nat.add_mul,Nat.one_mul]
   have f0:l.length=j*n+n+m*n:=by rw [HL.z, ←hj, ←d0];congr 1;omega
   have hd:(l.drop (j*n)).length=n+m*n:=by rw [List.length_drop];omega
   obtain ⟨A,c,e0,r0,V0⟩:=hs.form;subst e0;obtain ⟨ga,oa,eA,T0,_⟩:=hs.addr (by omega);subst eA;have H0:Hid (Sl zo X w (.slice (some ⟨ga,oa,none⟩) n c) ((l.drop (j*n)).take n)):=za (hs.take n (by omega));have y0:Hid (Sl zo X w (.slice (some ⟨ga,oa+n*2,none⟩) (n+m*n - n) (c - n)) (l.drop ((j+1)*n))):=za (by
    rw [hd] at hs
    have:=hs.drop n (by omega)
    rwa [List.drop_drop,show j*n+n=(j+1)*n by rw [Nat.add_mul,Nat.one_mul]] at this)
   have O0:Hid (m=0→l.drop ((j+1)*n)= []):=za (fun hm=>List.drop_eq_nil_of_le (by rw [f0,hm,Nat.add_mul];omega));have j0:Hid (((l.drop (j*n)).take n).length=n):=za (by rw [lLt,hd];omega);rw [hd] at r0 ⊢;have S0:n≤100000:=M0.z (by omega);have A0:=za b0;have HG:=za hg;have I0:=za (Qf n l j);have P0:=za (zH n l j);obtain ⟨q,hq⟩:=exq (n+m*n);rw [←hq] at r0 ⊢;have R0:n≤q:=by omega
   clear hs b0 hg HX hd f0 d0 k0;have HQ:=za hq;have i1:(0:Int)< (q:Int):=by omega
   have i2:(n:Int)≤(q:Int):=by omega
   have i3:(n:Int)≤(c:Int):=by omega
   have i4:(0:Int)≤(n:Int):=by omega
   clear hq;have m0:Hid (∀g,u5.ownBlock=some g→w.heap.size≤g∧g< wr.heap.size):=za A0.z.lt;have HZ:Hid (∀cs y,Enc.rep zo (fun g=>X g∧g< w.heap.size) (wr.alloc (.cells #[] 153)) cs y→Enc.rep zo (fun g=>(Y g∧some g≠u5.ownBlock)∧some g≠(Value.slice (some ⟨wr.heap.size,0,none⟩) 0 0).ownBlock) (wr.alloc (.cells #[] 153)) cs y):=
    za (fun cs y hr=>Enc.more _ (G0.z _ _ _ hr) fun g _ hg=>⟨⟨hg.1,fun e=>by have:=m0.z g e.symm;have:=hg.2;omega⟩,fun e=>by simp [Value.ownBlock] at e;have:=hg.2;have:=HG.z.size;omega⟩)
   have J0:Hid (Sl zo (fun g=>X g∧g< w.heap.size) (wr.alloc (.cells #[] 153)) (.slice (some ⟨ga,oa,none⟩) n c) ((l.drop (j*n)).take n)):=za (H0.z.bounded.kept (HG.z.trans (gAl wr _ none)));have Q0:Hid ((([]:List (Int×Int)).length+((l.drop (j*n)).take n).length)*16≤140737488355328):=za (by rw [j0.z];simp;omega);have L0:Hid (∀g,(wr.alloc (.cells #[] 153)).heap.size≤g→Y g∧some g≠u5.ownBlock):=za (fun g hg=>⟨HY.z g (by have:=HG.z.size;simp at hg;omega),fun e=>by have:=m0.z g e.symm;simp at hg;omega⟩);go_wp2_with (at_builtin;refine xM rfl (.tmp 13) (.tmp 16) rfl (E:=zo) Xx (Acc.made _ wr 153 (nRf _) (fun g=>Y g∧some g≠u5.ownBlock) ⟨HY.z _ HG.z.size,fun e=>by have:=m0.z _ e.symm;omega⟩) rfl rfl J0.z HZ.z Q0.z (by simp) L0.z ?_);intro v1 w1 a0 q0 F0;obtain ⟨A1,c1,e1,_,_⟩:=a0.sl.form;rw [j0.z] at e1;subst e1;have Z0:=za a0;have n0:Hid (wr.grownBy w1 none):=za (zz (gAl wr _ none) q0 (fun g e=>by simp [Value.ownBlock] at e;omega));have l0:Hid (Enc.rep (Zd zo) (fun g=>Y g∧some g≠u5.ownBlock) w1 [.slice A1 n c1] ((l.drop (j*n)).take n)):=za (by
    have C0:0< ((l.drop (j*n)).take n).length:=by rw [j0.z];omega
    exact ⟨_,rfl,a0.sl,a0.wr C0⟩)
   clear a0 q0 F0;have N0:Hid (((chk n l j).length+1)*24≤140737488355328):=za (by rw [P0.z];omega);have g0:=za (A0.z.kept n0.z);have v0:=za (HG.z.trans n0.z);have z0:Hid (w.heap.size≤w1.heap.size):=za v0.z.size;have K0:Hid (∀g,w1.heap.size≤g→Y g):=za (fun g hg=>HY.z g (nLT z0.z hg));go_wp2_with (at_builtin;refine zW rfl (.tmp 12) (.tmp 18) rfl (E:=Zd zo) Xd g0.z rfl rfl l0.z N0.z z0.z K0.z ?_);intro v2 w2 c0 i0 D0;have u0:Hid (w.grownBy w2 none):=za (zz v0.z i0 (fun g e=>(g0.z.lt g e).1));have Y0:Hid (wr.grownBy w2 u5.ownBlock):=za ((yT n0.z).trans i0);have B0:Hid (Acc (Zd zo) w.heap.size 72 Y w2 v2 (chk n l (j+1))):=za (by rw [I0.z];exact c0);clear c0 i0 D0;have HE:Hid (c=n→l.drop ((j+1)*n)= []):=za (fun U0=>O0.z (by
    rcases Nat.eq_zero_or_pos m with h|h
    ·exact h
    ·have:=Nat.mul_le_mul h (nRf n)
     have:=HQ.z
     omega))
   have o0:Hid (Sl zo X w (.slice (some ⟨ga,oa+n*2,none⟩) (q - n) (c - n)) (l.drop ((j+1)*n))):=za (by rw [HQ.z];exact y0.z);clear y0;go_wp2_with fail
   all_goals
    go_roundg m
    case measure=>omega
    case rel=>first|exact ⟨j+1,by omega,za ⟨o0.z,B0.z,u0.z⟩⟩|exact ⟨j+1,by omega,za ⟨by rw [HE.z (by assumption),show q - n=0 by omega];exact Sl.empty _ _ _ _ _ (by omega),B0.z,u0.z⟩⟩
theorem XH(w:World)(n:Nat):((w.drewN n).alloc (Obj.cells #[.int .u64 0, .int .u64 0] 153)).cell? ⟨w.heap.size,0,none⟩=some (.int .u64 0)∧((w.drewN n).alloc (Obj.cells #[.int .u64 0, .int .u64 0] 153)).cell? ⟨w.heap.size,1,none⟩=some (.int .u64 0)∧
  ((w.drewN n).alloc (Obj.cells #[.int .u64 0, .int .u64 0] 153)).frozen? ⟨w.heap.size,0,none⟩=false∧((w.drewN n).alloc (Obj.cells #[.int .u64 0, .int .u64 0] 153)).frozen? ⟨w.heap.size,1,none⟩=false:=
 have h:Bk ((w.drewN n).alloc (Obj.cells #[.int .u64 0, .int .u64 0] 153)) w.heap.size 153 #[.int .u64 0, .int .u64 0]:=Bk.new (w.drewN n) _ _
 ⟨h.cell 0,h.cell 1,h.free 0,h.free 1⟩
def Zy(p:Par):Bool:=decide (0≤p.K) && decide (p.K≤2) && decide (0≤p.D) && decide (p.D≤4) && decide (0≤p.T) && decide (p.T≤2)
theorem xn(p:Par):Zy p=true↔0≤p.K∧p.K≤2∧0≤p.D∧p.D≤4∧0≤p.T∧p.T≤2:=by
 simp [Zy,and_assoc]
theorem KW(p:Par)(w:World)(h:Zy p=true):Calls prog 198 #[p.v] w fun e w'=>e= .returned (.bool true)∧w.grownBy w' none:=by
 obtain ⟨a,b,c,d,e,f⟩:=(xn p).1 h;clear h;go_enter func198,ntmps198;go_wp2_with fail
 all_goals
  go_ret;exact ⟨rfl,gAl w _ none⟩
theorem GB(p:Par)(w:World)(h:Zy p=false):Calls prog 198 #[p.v] w fun e w'=>e= .returned (.bool false)∧w.grownBy w' none:=by
 have hn: ¬(0≤p.K∧p.K≤2∧0≤p.D∧p.D≤4∧0≤p.T∧p.T≤2):=fun k=>by rw [(xn p).2 k] at h;cases h
 clear h;by_cases a:0≤p.K
 ·by_cases c:0≤p.D
  ·by_cases e:0≤p.T
   ·by_cases b:p.K≤2
    ·by_cases d:p.D≤4
     ·have f: ¬p.T≤2:=by omega
      clear hn;go_enter func198,ntmps198;go_wp2_with fail
      all_goals (first|(go_ret;exact ⟨rfl,gAl w _ none⟩)|(exfalso;omega))
     ·clear hn;go_enter func198,ntmps198;go_wp2_with fail
      all_goals (first|(go_ret;exact ⟨rfl,gAl w _ none⟩)|(exfalso;omega))
    ·clear hn;go_enter func198,ntmps198;go_wp2_with fail
     all_goals (first|(go_ret;exact ⟨rfl,gAl w _ none⟩)|(exfalso;omega))
   ·clear hn;go_enter func198,ntmps198;go_wp2_with fail
    all_goals (first|(go_ret;exact ⟨rfl,gAl w _ none⟩)|(exfalso;omega))
  ·clear hn;go_enter func198,ntmps198;go_wp2_with fail
   all_goals (first|(go_ret;exact ⟨rfl,gAl w _ none⟩)|(exfalso;omega))
 ·clear hn;go_enter func198,ntmps198;go_wp2_with fail
  all_goals (first|(go_ret;exact ⟨rfl,gAl w _ none⟩)|(exfalso;omega))
theorem IC{a b:Int}(h:a=b):Ending.returned (.int .i64 a)= .returned (.int .i64 b):=by rw [h]
def Zq(p:Par):Int:=p.K*(p.D+1)
theorem NO{p:Par}(h:Zy p=true):0≤Zq p∧Zq p≤10:=by
 obtain ⟨a,b,c,d,e,f⟩:=(xn p).1 h;have h1:p.K*(p.D+1)≤2*5:=Int.mul_le_mul b (by omega) (by omega) (by omega);have h2:0≤p.K*(p.D+1):=Int.mul_nonneg a (by omega);unfold Zq;omega
theorem Qb(p:Par)(w:World)(h:Zy p=true):Calls prog 97 #[p.v] w fun e w'=>e= .returned (.int .i64 (Zq p))∧w.grownBy w' none:=by
 obtain ⟨a,b,c,d,e,f⟩:=(xn p).1 h;have HE:Hid (p.K*(p.D+1)=Zq p):=za rfl;have h1:p.K*(p.D+1)≤2*5:=Int.mul_le_mul b (by omega) (by omega) (by omega);have h2:0≤p.K*(p.D+1):=Int.mul_nonneg a (by omega);clear h;go_enter func97,ntmps97;go_wp2_with fail;go_ret;exact ⟨IC HE.z,gAl w _ none⟩
theorem OO(v:Value)(a b:Int)(X:Nat→Prop)(w:World)(h:Sl ze X w v [a,b]):Calls prog 226 #[v] w fun e w'=>e= .returned (.agg #[.int .u64 a, .int .u64 b])∧w.grownBy w' none:=by
 have H:=za h;obtain ⟨A,c,rfl,hc1,hc2⟩:=h.form;obtain ⟨g,o,c',e,hg,_,h0,_⟩:=H.out.atU (k:=0) (by simp);injection e with e1 e2 e3
 subst e1 e3;obtain ⟨g',o',c'',e,_,_,h1,_⟩:=H.out.atU (k:=1) (by simp);injection e with e1 e2 e3
 injection e1 with e1
 injection e1 with e1 e4
 subst e1 e4;simp only [List.getElem_cons_zero,List.getElem_cons_succ,Nat.add_zero] at h0 h1;have h2:([a,b].length:Nat)=2:=rfl;rw [h2];have n0:=World.new_ne w _ h0;have n1:=World.new_ne w _ h1;have z0:=fun n=>(XH w n).1
 have z1:=fun n=>(XH w n).2.1
 have z2:=fun n=>(XH w n).2.2.1
 have z3:=fun n=>(XH w n).2.2.2
 clear h e2 e3 h2 hc1;go_enter func226,ntmps226;go_wp2_with fail;go_region_held3 (fun w'=>w'.cell? ⟨g,o,none⟩=some (.int .u64 a)∧w'.cell? ⟨g,o+1,none⟩=some (.int .u64 b)) (go_keep) (fail);go_wp2_with fail;refine bodyPost_ret (v:= .agg #[.int .u64 a, .int .u64 b]) (by simp [results,Tryz.results226,go_sem]) rfl ⟨rfl, ?_⟩;exact zg (gAl w _ none) 1
def xW(l:List Int):Int×Int:=(l[0]?.getD 0,l[1]?.getD 0)
theorem RM{α β:Type}(f:α→β)(l:List α)(j:Nat)(h:j< l.length):(l.take (j+1)).map f=(l.take j).map f++ [f l[j]]:=by
 rw [tSg h,lMa];rfl
theorem TV{X:Nat→Prop}{w:World}{v:Value}{l:List Int}(h:Sl ze X w v l)(h2:l.length=2):U64 (xW l).1∧U64 (xW l).2∧l= [(xW l).1,(xW l).2]:=by
 match l,h2 with
 | [a,b],_=>
  obtain ⟨_,_,_,_,_,_,_,u0⟩:=h.atU (k:=0) (by simp);obtain ⟨_,_,_,_,_,_,_,u1⟩:=h.atU (k:=1) (by simp);exact ⟨u0,u1,rfl⟩
theorem Ld(v:Value)(l:List Int)(X:Nat→Prop)(w:World)(h:Sl ze X w v l)(h2:l.length=2):Calls prog 226 #[v] w fun e w'=>e= .returned (.agg #[.int .u64 (xW l).1, .int .u64 (xW l).2])∧w.grownBy w' none:=by
 obtain ⟨_,_,q⟩:=TV h h2;exact OO v _ _ X w (q ▸ h)
theorem Iu(v:Value)(ls:List (List Int))(X:Nat→Prop)(w:World)(h:Sl (zh ze) X w v ls)(h2: ∀l∈ls,l.length=2)(hb:ls.length≤100000):
  Calls prog 225 #[v, .func (.func 226) #[] #[]] w (zY zo (fun g=>w.heap.size≤g) w (ls.map xW)):=by
 have H:=za h;have H2:=za h2;have g0:Hid (Acc zo w.heap.size 153 (fun g=>w.heap.size≤g) w (.slice none 0 0) ((ls.take 0).map xW)∧w.grownBy w none):=za ⟨Acc.nil _ _ _ _ _,gRr w none⟩;obtain ⟨A,c,rfl,t0,s0⟩:=h.form;clear h h2;go_enter func225,ntmps225;go_wp2_with fail;go_loopg [5,10] ls.length (fun g s5 s10 wx=> ∃j:Nat,j+g=ls.length∧s10= .int .i64 j∧Hid (Acc zo w.heap.size 153 (fun g=>w.heap.size≤g) wx s5 ((ls.take j).map xW)∧w.grownBy wx none))
 case atStart=>exact ⟨0,by omega,rfl,g0⟩
 case round=>
  obtain ⟨j,hj,rfl,HX⟩:=hrel;cases gk with
  |zero=>
   obtain rfl:j=ls.length:=by omega
   have HR:Hid (Sl zo (fun g=>w.heap.size≤g) wr u5 (ls.map xW)):=za (by have:=HX.z.1.sl;rwa [List.take_length] at this);have HG:=za HX.z.2;clear HX g0;go_wp2;go_ret;exact ⟨_,rfl,HR.z,HG.z⟩
  |succ m=>
   have q0:(j:Int)< (ls.length:Int):=by omega
   have f0:j< ls.length:=by omega
   obtain ⟨b0,hg⟩:=HX.z;obtain ⟨g,o,c',u,e,_,_,r0,c0⟩:=(H.out.kept hg).atS f0;injection e with e1 e2 e3
   subst e1 e3;obtain ⟨A1,c1,e1,_,_⟩:=c0.form;have d0:=H2.z _ (lGm f0);rw [d0] at e1;subst e1;obtain ⟨q1,q2,_⟩:=TV c0 d0;have l0:=za (RM xW ls j f0);have HF:=za (Ld _ ls[j] X wr c0 d0);have i0:Hid (U64 (xW ls[j]).1∧U64 (xW ls[j]).2):=za ⟨q1,q2⟩;have o0:=za b0;have HG:=za hg;have m0:Hid ((((ls.take j).map xW).length+1)*16≤140737488355328):=za (by simp;omega);clear b0 hg c0 e2 q1 q2 d0 HX g0;generalize xW ls[j]=pj at *;go_wp2_with fail;refine HF.z.mono ?_;rintro e' w1 ⟨rfl,hg1⟩;have u0:=za hg1;have n0:=za (HG.z.trans hg1);have p0:=za (o0.z.kept hg1);clear hg1;go_wp2_with (at_builtin;refine zL rfl (.tmp 14) (.tmp 18) rfl (E:=zo) Xx n0.z p0.z (fun _ h=>h) ⟨rfl,i0.z⟩ m0.z rfl rfl ?_);intro v2 w2 a0 k0 _;have j0:Hid (Acc zo w.heap.size 153 (fun g=>w.heap.size≤g) w2 v2 ((ls.take (j+1)).map xW)∧w.grownBy w2 none):=za ⟨by rw [l0.z];simpa using a0,k0⟩;clear a0 k0;go_wp2_with fail;go_roundg m
   case measure=>omega
   case rel=>exact ⟨j+1,by omega,by go_num,j0⟩
def NV(l:List Int)(k:Nat):List (Int×Int):=(chk 2 l k).map xW
theorem yH(l:List Int)(k:Nat):(NV l k).length=k:=by simp [NV,zH]
theorem xr(v:Value)(l:List Int)(k:Nat)(X:Nat→Prop)(w:World)(h:Sl ze X w v l)(hl:l.length=k*2)(hb:l.length≤100000):
  Calls prog 202 #[v] w (zY zo (fun g=>w.heap.size≤g) w (NV l k)):=by
 have HC:=za (Vf v l 2 k X (fun _=>True) w h (by decide) hl hb (fun _ _=>trivial) (fun _ _ _ h=>h));have HK:Hid (k≤100000):=za (by omega);have H2:Hid (∀x∈chk 2 l k,x.length=2):=za (fun x hx=>by
  obtain ⟨j,hj,rfl⟩:=List.mem_map.1 hx;have hj':j< k:=by simpa using hj
  rw [lLt,List.length_drop,hl];omega)
 clear h hl hb;go_enter func202,ntmps202;go_wp2_with fail;refine HC.z.mono ?_;rintro e w1 ⟨v1,rfl,hs,hg⟩;have HG:=za hg;have HE:=za (Iu v1 (chk 2 l k) _ w1 hs.plain H2.z (by rw [zH];exact HK.z));clear hs hg;go_wp2_with fail;refine HE.z.mono ?_;rintro e w2 ⟨v2,rfl,hs,hg⟩;have HFIN:Hid (Sl zo (fun g=>w.heap.size≤g) w2 v2 (NV l k)∧w.grownBy w2 none):=za ⟨hs.more (fun g _ hg'=>nLT HG.z.size hg'),HG.z.trans hg⟩;clear hs hg;go_wp2;go_ret;exact ⟨_,rfl,HFIN.z.1,HFIN.z.2⟩
end
section
open Go.RowKit
theorem NK(a b m:Int)(hm:zN m=true):Xl a b m=(a - b)%m:=by
 simp only [Xl,hm,if_true];show Cg m (a%m+m - b%m) (a - b);refine Cg.sub ?_ (Cg.mod m b);unfold Cg;rw [Int.add_emod_right,Int.emod_emod_of_dvd _ (Int.dvd_refl m)]
theorem KS(a b m:Int)(hm:zN m=true):0≤Xl a b m∧Xl a b m< m:=by
 rw [NK a b m hm];simp [zN] at hm;exact yk _ _ hm.1
theorem xe(a b m:Int)(hm:zN m=true):xv a b m=(a+b)%m:=by
 simp only [xv,hm,if_true];exact (Cg.mod m a).add (Cg.mod m b)
theorem DD(a b m:Int)(hm:zN m=true):0≤xv a b m∧xv a b m< m:=by
 rw [xe a b m hm];simp [zN] at hm;exact yk _ _ hm.1
theorem Vn(a b m:Int):U64 (xv a b m):=by
 cases hm:zN m with
 |false=>simp [xv,hm,U64]
 |true=>
  have:=DD a b m hm
  simp [zN] at hm;unfold U64;omega
theorem Rx(a b m:Int):U64 (Xl a b m):=by
 cases hm:zN m with
 |false=>simp [Xl,hm,U64]
 |true=>
  have:=KS a b m hm
  simp [zN] at hm;unfold U64;omega
open Classical in
noncomputable def UY(a m:Int):Value:=if yq a m then .tuple #[.int .u64 (Qx a m), .int .i64 0] else .tuple #[.int .u64 0, .int .i64 5]
theorem Ls{a m x:Int}(h:yq a m∧x=Qx a m): .tuple #[.int .u64 x, .int .i64 0]=UY a m:=by
 unfold UY;rw [if_pos h.1,h.2]
theorem JX{a m:Int}(h: ¬yq a m): .tuple #[.int .u64 0, .int .i64 5]=UY a m:=by
 unfold UY;rw [if_neg h]
theorem Db(a m:Int)(w:World)(ha:U64 a)(hm:zN m=true):
  Calls prog 242 #[.int .u64 a, .int .u64 m] w fun e' w'=>e'= .returned (UY a m)∧ ∃n,w'=w.drewN n:=by
 have H:=Lib.hid hm;simp [zN] at hm;obtain ⟨hm0,hm1⟩:=hm;obtain ⟨e1,e2⟩:=yk 1 m hm0;obtain ⟨e3,e4⟩:=yk a m hm0;obtain ⟨ha0,ha1⟩:=ha;have HP:=Lib.hid (YU.start a m);go_enter func242,ntmps242;go_wp2_with (go_at_call 182;refine (UR _ _ H.out).mono ?_;rintro e w' ⟨rfl,rfl⟩);go_quiet (fail);go_wp2;go_quiet (fail);go_wp2_with fail;go_loopw [6,7,8,9] (fun sr ss sx sy wr=> ∃r s x y:Int,sr= .int .u64 r∧ss= .int .u64 s∧sx= .int .u64 x∧sy= .int .u64 y∧0< r∧r≤m∧0≤s∧s≤m∧0≤x∧x< m∧0≤y∧y< m∧Hid (YU a m r s x y)∧ ∃n,wr=w.drewN n) (fun _ ss _ _ _=>(intOf ss).toNat)
 case atStart=>exact ⟨_,_,_,_,rfl,rfl,rfl,rfl,by omega,by omega,by omega,by omega,by omega,by omega,by omega,by omega,HP,_,World.drewN_drewN _ _ _⟩
 case round=>
  obtain ⟨r,s,x,y,rfl,rfl,rfl,rfl,hr0,hr1,hs0,hs1,hx0,hx1,hy0,hy1,hp,n,rfl⟩:=hrel;by_cases h0:s=0
  ·subst h0;by_cases h1:r=1
   ·subst h1;have HR:=Lib.hid (Ls (hp.out.yes hx0 hx1));go_wp2;go_ret2;exact ⟨congrArg Ending.returned HR.out,_,rfl⟩
   ·have h1':(r !=1)=true:=by simpa using h1
    have HR:=Lib.hid (JX (hp.out.no hr0 h1));clear h1;go_wp2;go_ret2;exact ⟨congrArg Ending.returned HR.out,_,rfl⟩
  ·have h0':(s !=0)=true:=by simpa using h0
   have q0:0≤r / s:=Int.ediv_nonneg (by omega) hs0;have q1:r / s≤r:=Int.ediv_le_self s (by omega);obtain ⟨b0,b1⟩:=yk r s (by omega);have HQ:Hid (U64 (r / s)):=Lib.hid ⟨q0,by omega⟩;have HY:Hid (U64 y):=Lib.hid ⟨hy0,by omega⟩;have HX:Hid (U64 x):=Lib.hid ⟨hx0,by omega⟩;have HM:=Lib.hid (yJ (r / s) y m);have HS:=KS x (zR (r / s) y m) m H.out;obtain ⟨z0,z1⟩:=HS;have HN:=Lib.hid (hp.out.next (z:=Xl x (zR (r / s) y m) m) (by rw [NK x _ m H.out];exact (Cg.mod m _).trans ((Cg.refl m x).sub (RK _ _ m H.out))));clear h0;go_wp2;go_quiet (fail);go_wp2_with fail;refine (ZN _ _ m _ HQ.out HY.out).mono ?_;rintro e w' ⟨rfl,n1,rfl⟩;go_wp2_with fail;refine (KR _ _ m _ HX.out HM.out).mono ?_;rintro e w' ⟨rfl,n2,rfl⟩;go_wp2;go_roundw
   case rel=>exact ⟨_,_,_,_,rfl,rfl,rfl,rfl,by omega,by omega,by omega,by omega,by omega,by omega,by omega,by omega,HN,_,rfl⟩
   case measure=>simp [intOf];omega
end
section
open Go.RowKit
theorem UK(a e m:Int):U64 (Xr a e m):=by
 cases hm:zN m with
 |false=>simp [Xr,hm,U64]
 |true=>
  simp only [Xr,hm,if_true];simp [zN] at hm
  have:=yk (a ^ e.toNat) m hm.1
  unfold U64;omega
theorem Sl.ofBk{w:World}{g:Nat}{t:TypeId}{l:List Int}(h:Bk w g t (nums l).toArray)(hu: ∀x∈l,U64 x)(hl:l.length≤9223372036854775807):Sl ze (fun _=>True) w (.slice (some ⟨g,0,none⟩) l.length l.length) l:=by
 refine ⟨_,_,rfl,nRf _,hl,fun _=>⟨g,0,rfl,h.lt,trivial,fun i hi=>⟨_,⟨rfl,hu _ (lGm hi)⟩,fun j u hj=> ?_⟩⟩⟩;have hj0:j=0:=by
  have:=(List.getElem?_eq_some_iff.1 hj).1
  simp at this;exact this
 subst hj0;simp at hj;subst hj;rw [h.cell];simp [nums,ze,hi]
theorem Qg{w w':World}(hg:w.grownBy w' none){n:Nat}(hn:n≤w.heap.size): ∀b o,b< n→w'.cell? ⟨b,o,none⟩=w.cell? ⟨b,o,none⟩:=fun b o h=>World.cell?_of_block (hg.block b (by omega) (by simp))
theorem No{w' W:World}{n:Nat}(h: ∀b o,b< n→w'.cell? ⟨b,o,none⟩=W.cell? ⟨b,o,none⟩)(hn:n≤w'.heap.size)(ob:Obj): ∀b o,b< n→(w'.alloc ob).cell? ⟨b,o,none⟩=W.cell? ⟨b,o,none⟩:=fun b o hb=>(World.cell?_alloc_lt w' ob ⟨b,o,none⟩ (by simp;omega)).trans (h b o hb)
theorem QG(p:Par)(a b:Int)(w:World)(ha:U64 a)(hb:U64 b):
  Calls prog 143 #[p.v, .slice (some ⟨w.heap.size,0,none⟩) 2 2] (w.alloc (Obj.cells #[.int .u64 a, .int .u64 b] 22)) fun e w'=>e= .returned (.int .u64 (yp p.P [a,b]))∧w.grownBy w' none:=
 (QH p _ [a,b] (fun _=>True) _ (Sl.ofBk (t:=22) (Bk.new w 22 (nums [a,b]).toArray) (by intro y hy;simp at hy;rcases hy with rfl|rfl<;>assumption) (by simp))).mono fun _ _ ⟨he,hg⟩=>⟨he,(gAl w _ none).trans hg⟩
theorem Ux(p:Par)(w:World):
  Calls prog 143 #[p.v, .slice none 0 0] w fun e w'=>e= .returned (.int .u64 (yp p.P []))∧w.grownBy w' none:=
 QH p _ [] (fun _=>True) w (Sl.nil _ _ _)
theorem XQ(p:Par)(x e:Int)(w:World)(hx:U64 x)(he:U64 e):
  Calls prog 140 #[p.v, .int .u64 x, .int .u64 e] w fun e' w'=>e'= .returned (.int .u64 (Xr x e p.P))∧w.grownBy w' none:=by
 go_enter func140,ntmps140;go_wp2_with fail;refine (Jn x e p.P _ hx he).mono ?_;rintro e w' ⟨rfl,n,rfl⟩;go_wp2;go_ret;exact ⟨rfl,zg (gAl w _ none) n⟩
def zj(p:Par)(x:Int×Int):Int:=yp p.P [Xr p.G x.1 p.P,Xr p.H x.2 p.P]
theorem Yf(p:Par)(x:Int×Int)(w:World)(hp:p.ok)(h1:U64 x.1)(h2:U64 x.2):
  Calls prog 95 #[p.v, .agg #[.int .u64 x.1, .int .u64 x.2]] w fun e' w'=>e'= .returned (.int .u64 (zj p x))∧w.grownBy w' none:=by
 have HG:Hid (U64 p.G):=za hp.G;have HH:Hid (U64 p.H):=za hp.H;have H1:=za h1;have H2:=za h2;have HU:=za (UK p.G x.1 p.P);have HL:=za (UK p.H x.2 p.P);clear hp h1 h2;go_enter func95,ntmps95;go_wp2_with fail;go_region_held3 (fun w'=> ∀b o,b< w.heap.size+2→w'.cell? ⟨b,o,none⟩=((w.alloc (Obj.cells p.cells 39)).alloc (Obj.cells #[.int .u64 x.1, .int .u64 x.2] 153)).cell? ⟨b,o,none⟩) (first|assumption|exact No (by assumption) (by assumption) _|go_keep)
  (first
  |(go_at_call 140;(with_reducible refine (XQ p p.G x.1 _ HG.z H1.z).mono ?_);rintro e w1 ⟨rfl,hg⟩;have HG1:=za hg;have hc1:=Qg (n:=w.heap.size+2) hg (by simp);clear hg)
  |(go_at_call 140;(with_reducible refine (XQ p p.H x.2 _ HH.z H2.z).mono ?_);rintro e w2 ⟨rfl,hg⟩;have HG2:=za (HG1.z.trans hg);have hc2:=Qg (n:=w.heap.size+2) HG2.z (by simp);have hs2:w.heap.size+2≤w2.heap.size:=nLT (by simp) HG2.z.size;clear hg)
  |(go_at_call 143;(with_reducible refine (QG p _ _ w2 HU.z HL.z).mono ?_);rintro e w3 ⟨rfl,hg⟩;have HG3:=za (HG2.z.trans hg);have hc3:=Qg (n:=w.heap.size+2) HG3.z (by simp);clear hg))
 go_wp2;go_ret;exact ⟨rfl,((gAl w _ none).trans (gAl _ _ none)).trans (zg gRf 1|>.trans HG3.z)⟩
def isB(p:Par)(x:Int):Bool:=decide (1≤x) && decide (x< p.P) && Xr x p.Q p.P==1
theorem JV(p:Par)(x:Int)(w:World)(hp:p.ok)(h1:U64 x):
  Calls prog 83 #[p.v, .int .u64 x] w fun e' w'=>e'= .returned (.bool (isB p x))∧w.grownBy w' none:=by
 have HQ:Hid (U64 p.Q):=za hp.Q;have H1:=za h1;clear hp h1;by_cases ha:1≤x
 ·by_cases hb:x< p.P
  ·have HE:Hid (isB p x=(Xr x p.Q p.P==1)):=za (by simp [isB,ha,hb]);go_enter func83,ntmps83;go_wp2_with fail;refine (XQ p x p.Q _ H1.z HQ.z).mono ?_;rintro e w1 ⟨rfl,hg⟩;have HG:=za hg;clear hg;go_wp2;go_ret;exact ⟨zn HE.z.symm,(gAl w _ none).trans HG.z⟩
  ·have HE:Hid (isB p x=false):=za (by simp [isB,hb]);have hb':decide (x< p.P)=false:=by simpa using hb
   clear hb;go_enter func83,ntmps83;go_wp2_with fail;go_ret;exact ⟨zn HE.z.symm,gAl w _ none⟩
 ·have HE:Hid (isB p x=false):=za (by simp [isB,ha]);go_enter func83,ntmps83;go_wp2_with fail;go_ret;exact ⟨zn HE.z.symm,gAl w _ none⟩
def MC(p:Par)(i:Int):List Int→Int→Int→Int
 | [],x,_=>x
 |y::l,x,e=>MC p i l (yp p.P [x,Xr y e p.P]) (zR e i p.Q)
def atI(p:Par)(l:List Int)(i:Int):Int:=MC p i l (yp p.P []) (zR 1 1 p.Q)
theorem He(p:Par)(i:Int)(l:List Int)(j:Nat)(h:j< l.length)(x e:Int):MC p i (l.drop j) x e=MC p i (l.drop (j+1)) (yp p.P [x,Xr l[j] e p.P]) (zR e i p.Q):=by
 rw [List.drop_eq_getElem_cons h];rfl
theorem CE(p:Par)(v:Value)(l:List Int)(i:Int)(X:Nat→Prop)(w:World)(h:Sl ze X w v l)(hi:U64 i):
  Calls prog 92 #[p.v,v, .int .u64 i] w fun e' w'=>e'= .returned (.int .u64 (atI p l i))∧w.grownBy w' none:=by
 have H:=za h;have HI:=za hi;obtain ⟨A,c,rfl,h1,h2⟩:=h.form;clear h hi;go_enter func92,ntmps92;go_wp2_with fail;refine (Ux p _).mono ?_;rintro e w1 ⟨rfl,hg⟩;have HG:=za hg;have HB:Hid (Bk w1 w.heap.size 39 p.cells):=za ((Bk.new w _ _).grown hg (by simp));have hc1:=HB.z.prule;clear hg;go_wp2_with fail;refine (ZN 1 1 p.Q _ (by decide) (by decide)).mono ?_;rintro e w' ⟨rfl,n,rfl⟩;have HS:Hid (U64 (yp p.P [])∧U64 (zR 1 1 p.Q)∧w.grownBy (w1.drewN n) none∧Bk (w1.drewN n) w.heap.size 39 p.cells∧MC p i (l.drop 0) (yp p.P []) (zR 1 1 p.Q)=atI p l i):=
  za ⟨xo _ _,yJ _ _ _,zg ((gAl w _ none).trans HG.z) n,HB.z.drewN n,rfl⟩
 clear HB HG hc1;go_wp2_with fail;go_loopg [7,8,18] l.length (fun g sx se si wx=> ∃(j:Nat) (x e:Int),j+g=l.length∧si= .int .i64 j∧sx= .int .u64 x∧se= .int .u64 e∧Hid (U64 x∧U64 e∧w.grownBy wx none∧Bk wx w.heap.size 39 p.cells∧MC p i (l.drop j) x e=atI p l i))
 case atStart=>exact ⟨0,_,_,by omega,rfl,rfl,rfl,HS⟩
 case round=>
  obtain ⟨j,x,e,hj,rfl,rfl,rfl,HX⟩:=hrel;cases gk with
  |zero=>
   obtain rfl:j=l.length:=by omega
   have HE:Hid (x=atI p l i):=za (by have:=HX.z.2.2.2.2;rwa [List.drop_length] at this);have HGG:=za HX.z.2.2.1;clear HX;go_wp2;go_ret;exact ⟨OF HE.z,HGG.z⟩
  |succ k=>
   have hjn:(j:Int)< (l.length:Int):=by omega
   have hjN:j< l.length:=by omega
   obtain ⟨hx,he,hg,hb,hs⟩:=HX.z;obtain ⟨g,o,c',e',_,_,hc,hu⟩:=(H.out.kept hg).atU hjN;injection e' with e1 e2 e3
   subst e1 e3;have hp:=hb.prule;rw [He p i l j hjN] at hs;have HS:=za hs;have HXu:=za hx;have HEu:=za he;have HU:=za hu;have HGr:=za hg;have HBk:=za hb;generalize l[j]=y at *;clear hx he hg hb hs hu e2 HX;go_wp2_with fail;go_region_held3 (fun w'=> ∀o,w'.cell? ⟨w.heap.size,o,none⟩=(#[.int .u64 p.P, .int .u64 p.Q, .int .u64 p.G, .int .u64 p.H, .int .i64 p.Nodes, .int .i64 p.N, .int .i64 p.T, .int .i64 p.K, .int .i64 p.D, .int .i64 p.R, .int .i64 p.M, .int .i64 p.X]:Array Value)[o]?) (first|assumption|exact xq (by assumption) (by assumption) _|go_keep)
    (first
    |(go_at_call 140;(with_reducible refine (XQ p y e _ HU.z HEu.z).mono ?_);rintro e' w2 ⟨rfl,hg⟩;have HG2:=za hg;have HB2:=za ((HBk.z.drewN 1).grown hg (by simp));have hp2:=HB2.z.prule;have hs2:=HB2.z.lt;clear hg)
    |(go_at_call 143;(with_reducible refine (QG p x (Xr y e p.P) w2 HXu.z (UK y e p.P)).mono ?_);rintro e' w3 ⟨rfl,hg⟩;have HG3:=za hg;have HB3:=za (HB2.z.grown hg (by simp));have hp3:=HB3.z.prule;clear hg))
   go_wp2_with fail;refine (ZN e i p.Q _ HEu.z HI.z).mono ?_;rintro e' w' ⟨rfl,n',rfl⟩;go_wp2;go_roundg k
   case measure=>omega
   case rel=>exact ⟨j+1,_,_,by omega,by go_num,rfl,rfl,za ⟨xo _ _,yJ _ _ _,zg ((HGr.z.trans (zg (gRr wr none) 1)).trans (HG2.z.trans HG3.z)) n',HB3.z.drewN n',HS.z⟩⟩
end
section
open Go
section
variable {P:Program} {ops:Array Oper} {Q:Exit→Act→World→Prop} {n:Nat} {a0:Act} {w0:World}
def Og(u:Value)(dst:Option Tmp)(ds:List Deferred)(K:World→Prop):Exit→Act→World→Prop:=fun e a' w'=>e= .normal∧a'.defers=ds∧(match dst with|some d=>a'.eval (.tmp d)|none=>undef)=u∧K w'
def Yz(P:Program)(ops:Array Oper)(n:Nat)(a0:Act)(C:Array Bool→World→Prop)(us:List Value):Nat→Nat→List Oper→Prop
 |0,_,_=>True
 |_+1,_, []=>False
 |k+1,i,o::os=>(∃js:List (Nat×Tmp),(yw ops i js && yi ops n i js)=true∧ ∀D w,D.size=ops.size→D.getD i false=false→(∀k,av ops i n k=false→D.getD k false=false)→C D w→Ask P ops (us.map Pv.eq) (Og (us.getD i undef) o.dst a0.defers (C (D.setIfInBounds i true))) o w js a0)∧Yz P ops n a0 C us k (i+1) os
theorem Yz.out{C:Array Bool→World→Prop}{us:List Value}: ∀{k i:Nat} {os:List Oper},Yz P ops n a0 C us k i os→ ∀m o,m< k→os[m]? =some o→ ∃js:List (Nat×Tmp),(yw ops (i+m) js && yi ops n (i+m) js)=true∧ ∀D w,D.size=ops.size→D.getD (i+m) false=false→(∀k,av ops (i+m) n k=false→D.getD k false=false)→C D w→Ask P ops (us.map Pv.eq) (Og (us.getD (i+m) undef) o.dst a0.defers (C (D.setIfInBounds (i+m) true))) o w js a0
 |0,_,_,_,m,o,hm,_=>by omega
 |_+1,_, [],h,_,_,_,_=>h.elim
 |k+1,i,o::os,h,m,o',hm,ho=>by
  cases m with
  |zero=>
   obtain rfl:o=o':=by simpa using ho
   exact h.1
  |succ m=>
   have:=Yz.out h.2 m o' (by omega) (by simpa using ho)
   rwa [show i+1+m=i+(m+1) by omega] at this
theorem Yz.step{C:Array Bool→World→Prop}{us:List Value}{k i:Nat}{o:Oper}{os:List Oper}(js:List (Nat×Tmp))(hc:(yw ops i js && yi ops n i js)=true)(hA: ∀D w,D.size=ops.size→D.getD i false=false→(∀k,av ops i n k=false→D.getD k false=false)→C D w→Ask P ops (us.map Pv.eq) (Og (us.getD i undef) o.dst a0.defers (C (D.setIfInBounds i true))) o w js a0)(h:Yz P ops n a0 C us k (i+1) os):Yz P ops n a0 C us (k+1) i (o::os):=⟨⟨js,hc,hA⟩,h⟩
structure AV (ops:Array Oper) (n:Nat) (a0:Act) (C:Array Bool→World→Prop) (us:List Value) (D:Array Bool) (a:Act) (w:World):Prop where
 head:HeadInv .any ops n D
 cls:C D w
 tsize:a.tmps.size=a0.tmps.size
 defers:a.defers=a0.defers
 rest: ∀t,(∀j,j< n→D.getD j false=true→yf ops j≠some t)→a.tmps[t]? =a0.tmps[t]?
 known: ∀j u,D.getD j false=true→us[j]? =some u→Rr (yf ops j) a=u
theorem XJ{u:Value}{dst:Option Tmp}{ds:List Deferred}{K:World→Prop}: ¬LetsOut (Og u dst ds K):=by
 rintro ⟨a,w',e,_⟩;cases e
theorem Gq{u:Value}{K:World→Prop}{o:Oper}{a b:Act}{w:World}(hs: ∀cs b,o.op≠ .select cs b)(hd: ∀d,o.dst=some d→d< a.tmps.size)(hsz:b.tmps.size=a.tmps.size)(hlook: ∀t∈o.looksAt ops,b.tmps[t]? =a.tmps[t]?){i:Nat}(hi:ops[i]? =some o)
  (hdf:b.defers=a0.defers) (h:wpList P ops (Og u o.dst a0.defers K) [o] b w):wpOp P ops Q i (fun a' w'=> ∃v,a'=a.put o.dst v∧(match o.dst with|some _=>v|none=>undef)=u∧K w') a w:=by
 have hex:execOp b.eval o=execOp a.eval o:=execOp_congr o hs fun x hx=>by
  cases x with
  |tmp t=>exact YR _ _ _ (hlook t (mAl _ (List.mem_filterMap.2 ⟨.tmp t,by simpa using hx,rfl⟩)))
  |_=>rfl
 have hwn:Region.wanted o (yielded ops b.tmps)=Region.wanted o (yielded ops a.tmps):=by
  unfold Region.wanted;cases hg:o.guard with
  |none=>rfl
  |some gw=>
   obtain ⟨g,want⟩:=gw;have hy:yielded ops b.tmps g=yielded ops a.tmps g:=by
    unfold yielded;cases ht:(ops[g]?).bind (·.dst) with
    |none=>rfl
    |some t=>simp only [Option.bind_some,hlook t (by simp [Oper.looksAt,hg,ht])]
   simp only [hy]
 have fin: ∀v w',Og u o.dst a0.defers K .normal (b.put o.dst v) w'→ ∃v',a.put o.dst v=a.put o.dst v'∧(match o.dst with|some _=>v'|none=>undef)=u∧K w':=by
  rintro v w' ⟨_,_,h1,h2⟩;refine ⟨v,rfl, ?_,h2⟩;cases hdd:o.dst with
  |none=>rw [hdd] at h1;exact h1
  |some d=>
   rw [hdd] at h1;have hlt:=hd d hdd
   have:(b.put (some d) v).eval (.tmp d)=v:=by simp [Act.put,Act.eval,Array.getD_eq_getD_getElem?,hsz,hlt]
   simp only [this] at h1;exact h1
 unfold wpOp;simp only [hi];simp only [wpList,hwn] at h;split
 ·rename_i hw;rw [if_pos hw] at h;rcases h with h|h
  ·left;unfold Oper.wp at h ⊢;rw [hex] at h;generalize (execOp a.eval o).run P w=r at *;cases r with
   |ok x w'=>
    cases x with
    |value v=>exact fin v w' h
    |skip=>exact fin undef w' h
    |enter f args=>
     refine Calls.mono h fun e w'' he=> ?_
     cases e with
     |returned u=>exact fin u w'' he
     |panicked c=>exact absurd he.1 (by simp)
     |outgrown=>exact absurd he XJ
    |row row args=>exact Rows.mono h fun u w'' he=>fin u w'' he
    |defer d=>
     obtain ⟨_,h1,_⟩:=h;have h1:(Act.put {b with defers:=d::b.defers} o.dst undef).defers=a0.defers:=h1;rw [xd, ←hdf] at h1;exact absurd (congrArg List.length h1) (by simp)
    |_=>exact h.elim
   |halt x w'=>
    cases x with
    |panic v=>exact absurd h.1 (by simp)
    |_=>exact h.elim
  ·exact absurd h.2 XJ
 ·rename_i hw;rw [if_neg hw] at h;exact fin undef w h
theorem Im{C:Array Bool→World→Prop}{us:List Value}{D:Array Bool}{a a':Act}{w w':World}{i:Nat}{o:Oper}{v:Value}(inv:AV ops n a0 C us D a w)(hd:IF ops n a0.tmps.size=true)(hi:i∈Region.ready .any ops D)(hin:i< n)(ho:ops[i]? =some o)(hnl:us.length≤n)
  (ha:a'=a.put o.dst v) (hv:(match o.dst with|some _=>v|none=>undef)=us.getD i undef) (hg:C (D.setIfInBounds i true) w'):AV ops n a0 C us (D.setIfInBounds i true) a' w':=by
 subst ha;have hdi:yf ops i=o.dst:=by simp [yf,ho]
 have hun:D.getD i true=false:=(mem_ready.1 hi).1;have hlt:i< D.size:=by
  rcases Nat.lt_or_ge i D.size with h'|h'
  ·exact h'
  ·simp [Array.getElem?_eq_none h'] at hun
 refine ⟨inv.head.set hi hin,hg,(YW _ _ _).trans inv.tsize,(xd _ _ _).trans inv.defers,fun t ht=> ?_,fun j W hj hW=> ?_⟩
 ·have h1:o.dst≠some t:=fun e=>ht i hin (by simp [hlt]) (hdi.trans e)
  refine Eq.trans ?_ (inv.rest t fun j hj hD=>ht j hj (getD_set_true hD));cases hdd:o.dst with
  |none=>rfl
  |some d=>exact XO _ _ _ _ (fun e=>h1 (by rw [hdd,e]))
 ·by_cases e:i=j
  ·subst e;have hWe:us.getD i undef=W:=by rw [List.getD_eq_getElem?_getD,hW];rfl
   rw [hWe] at hv;rw [hdi];cases hdd:o.dst with
   |none=>rw [hdd] at hv;exact hv
   |some d=>
    rw [hdd] at hv;have hds:=zf hd hin;rw [hdi,hdd] at hds;simp only [Bool.and_eq_true,decide_eq_true_eq] at hds
    have:(a.put (some d) v).eval (.tmp d)=v:=by simp [Act.put,Act.eval,Array.getD_eq_getD_getElem?,inv.tsize,hds.1]
    show (a.put (some d) v).eval (.tmp d)=W;rw [this];exact hv
  ·have hjn:j< n:=by have:=(List.getElem?_eq_some_iff.1 hW).1;omega
   rw [getD_set_ne false e] at hj;have h1:=inv.known j W hj hW;cases hdj:yf ops j with
   |none=>rw [hdj] at h1;exact h1
   |some dj=>
    rw [hdj] at h1;have h1:a.eval (.tmp dj)=W:=h1;show (a.put o.dst v).eval (.tmp dj)=W;cases hdd:o.dst with
    |none=>exact h1
    |some d=>
     have hds:=zf hd hin;rw [hdi,hdd] at hds;simp only [Bool.and_eq_true,decide_eq_true_eq] at hds;have h2:=zf hds.2 hjn;simp only [Bool.or_eq_true,beq_iff_eq,bne_iff_ne,ne_eq] at h2;have h3:d≠dj:=fun e'=>(h2.resolve_left (fun e2=>e e2.symm)) (by rw [hdj,e'])
     rw [YR _ a dj (XO a d dj v h3)];exact h1
theorem MJ{l:List Oper}(n:Nat)(C:Array Bool→World→Prop)(us:List Value)(hB:Ys l.toArray n a0.tmps.size=true)(q0:us.length=n)(x0:C (Array.replicate l.toArray.size false) w0)
  (h:Yz P l.toArray n a0 C us n 0 l) (hF: ∀D w,(∀i,i< n→D.getD i false=true)→C D w→Hq P l.toArray Q w (us.map Pv.eq) l a0):wpAny P .any l.toArray Q l.toArray.size (Array.replicate l.toArray.size false) a0 w0:=by
 simp only [Ys,Bool.and_eq_true,decide_eq_true_eq] at hB;obtain ⟨⟨⟨⟨s0,hn⟩,d0⟩,c0⟩,f0⟩:=hB;simp only [MP,Bool.and_eq_true] at d0;obtain ⟨z0,r0⟩:=d0;have E0:n≤l.length:=by simpa using hn
 have N0:(l.take n).length=n:=by simp;omega
 have X0:us.length=n:=q0;have J0:(l.drop n).length=l.toArray.size - n:=by simp
 have D0: ∀i o,i< n→l.toArray[i]? =some o→(l.take n)[i]? =some o:=fun i o hi ho=>by
  rw [List.getElem?_take,if_pos hi];simpa using ho
 have K0: ∀m D a w,AV l.toArray n a0 C us D a w→cnt D n=m→wpAny P .any l.toArray Q (m+(l.toArray.size - n)) D a w:=by
  intro m;induction m with
  |zero=>
   intro D a w inv hc;have b0:=xB hc;have hD:D=Array.replicate n true++Array.replicate (l.toArray.size - n) false:=by
    have O0:=inv.head.size;refine Array.ext (by simp [O0];omega) fun i h1 h2=> ?_
    rw [Array.getElem_append];by_cases hi:i< n
    ·have:=b0 i hi
     simp [h1] at this;simp [hi,this]
    ·have:=inv.head.tail i (by omega) (by omega)
     simp [h1] at this;simp [hi,this]
   have u0:(us.map Pv.eq).length=(l.take n).length:=by rw [lLm,q0,N0]
   have hk: ∀(k:Nat) (V:Pv) (o:Oper),(us.map Pv.eq)[k]? =some V→(l.take n)[k]? =some o→V.p (match o.dst with|some d=>a.eval (.tmp d)|none=>undef) w:=by
    intro k V o hv ho;rw [List.getElem?_map] at hv;obtain ⟨u,hu,rfl⟩:=Option.map_eq_some_iff.1 hv;have F0:k< n:=by have:=(List.getElem?_eq_some_iff.1 hu).1;omega
    have h1:=inv.known k u (b0 k F0) hu;have h2:yf l.toArray k=o.dst:=by
     have:l[k]? =some o:=by rw [List.getElem?_take,if_pos F0] at ho;exact ho
     simp [yf,this]
    rw [h2] at h1;refine Eq.trans ?_ h1;unfold Rr;cases o.dst<;>rfl
   have n0:=Hq.cut (Vs:=us.map Pv.eq) (os:=l) (by rw [lLm];omega) (hF D w b0 inv.cls);rw [show (us.map Pv.eq).length=n by rw [lLm];exact q0] at n0;have m0:=Hr.all u0 hk n0;have i0:On a ((l.take n).map (·.dst)) a0=a:=by
    refine Tr (fun t=>Zu a t _ _ inv.tsize.symm ?_) ((yx _ _ _).trans inv.defers.symm);by_cases ht:some t∈(l.take n).map (·.dst)
    ·exact .inl ht
    ·refine .inr (inv.rest t fun j hj _ e=>ht ?_).symm;have H0:j< l.length:=by omega
     have:l[j].dst=some t:=by simpa [yf,H0] using e
     exact List.mem_map.2 ⟨l[j],List.mem_iff_getElem?.2 ⟨j,by rw [List.getElem?_take,if_pos hj,List.getElem?_eq_getElem H0]⟩,this⟩
   rw [i0] at m0
   have:=wpAny_of_seq (md:= .any) (Q':=Q) (l.drop n) n D a w (fun j=>by simp [List.getElem?_drop]) (by rw [J0,hD];exact r0) m0
   rw [J0] at this
   rwa [Nat.zero_add]
  |succ m ih=>
   intro D a w inv hc;have g0: ∀i∈Region.ready .any l.toArray D,i< n:=by
    intro i hi;rcases Nat.lt_or_ge i n with h'|h'
    ·exact h'
    ·obtain ⟨hu,oi,C0,b0⟩:=mem_ready.1 hi;have S0:i< l.toArray.size:=(Array.getElem?_eq_some_iff.1 C0).1;exfalso;obtain ⟨k,hk,v0⟩: ∃k,k< n∧D.getD k false=false:=by
      refine Classical.byContradiction fun Q0=> ?_
      have: ∀k,k≤n→cnt D k=0:=by
       intro k;induction k with
       |zero=>intro _;rfl
       |succ k ihk=>
        intro hk;have h1:D.getD k false=true:=by
         refine Classical.byContradiction fun hx=>Q0 ⟨k,by omega,by simpa using hx⟩
        simp only [cnt,h1,ihk (by omega)];rfl
      rw [this n (nRf _)] at hc;omega
     have hb:=zf z0 S0;simp only [Bool.or_eq_true,decide_eq_true_eq] at hb;have hb:=zf (hb.resolve_left (by omega)) hk;simp only [Bool.not_eq_true'] at hb;have I0:i≠k:=by omega
     have:av l.toArray k n i=true:=by
      have e0:=fun f j hj=>PX (ops:=l.toArray) inv.head.closed inv.head.size v0 f j hj
      cases W0:n with
      |zero=>simp [av,I0]
      |succ f=>
       simp only [av,C0,Option.map_some,Option.getD_some,Bool.and_eq_true,bne_iff_ne];refine ⟨I0, ?_⟩;rw [Array.all_eq_true_iff_forall_mem];intro e he;by_cases B0:Region.binds .any e=true
       ·simp [B0,e0 f e.on (b0 e he B0)]
       ·simp [B0]
     rw [hb] at this;cases this
   have R0:Region.ready .any l.toArray D≠ []:=by
    have U0: ∃k,k< n∧D.getD k false=false∧ ∀j,j< k→D.getD j false=true:=by
     have: ∀k,k≤n→(∃q,q< k∧D.getD q false=false∧ ∀j,j< q→D.getD j false=true)∨(cnt D k=0):=by
      intro k;induction k with
      |zero=>intro _;exact .inr rfl
      |succ k ihk=>
       intro hk;rcases ihk (by omega) with ⟨q,h1,h2⟩|h0
       ·exact .inl ⟨q,by omega,h2⟩
       ·cases hq:D.getD k false with
        |true=>right;simp only [cnt,hq,h0];rfl
        |false=>exact .inl ⟨k,by omega,hq,xB h0⟩
     rcases this n (nRf _) with ⟨q,h1,h2⟩|h0
     ·exact ⟨q,h1,h2⟩
     ·omega
    obtain ⟨k,hk,v0,A0⟩:=U0;have G0:k< l.toArray.size:=by omega
    have ho:l.toArray[k]? =some l.toArray[k]:=Array.getElem?_eq_getElem G0
    have:k∈Region.ready .any l.toArray D:=by
     refine mem_ready.2 ⟨getD_in (by rw [inv.head.size];exact G0) v0,_,ho,fun e he hb=>A0 _ ?_⟩;have ht:=zf c0 hk;simp only [ho,Option.map_some,Option.getD_some] at ht
     have:=Array.all_eq_true_iff_forall_mem.1 ht e he
     simpa [hb] using this
    intro e;rw [e] at this;cases this
   rw [show m+1+(l.toArray.size - n)=(m+(l.toArray.size - n))+1 by omega];refine ⟨fun e=>absurd e R0,fun i hi=> ?_⟩;have l0:=g0 i hi;obtain ⟨hu,o,ho,b0⟩:=mem_ready.1 hi;obtain ⟨js,o0,p0⟩:=Yz.out h i o l0 (by simpa using ho);simp only [Nat.zero_add,Bool.and_eq_true] at o0 p0;obtain ⟨j0,k0⟩:=o0;have y0: ∀d,o.dst=some d→d< a.tmps.size:=by
    intro d hd
    have:=zf f0 l0
    have h2:yf l.toArray i=some d:=by simp only [yf,ho];exact hd
    rw [h2] at this;simp only [Bool.and_eq_true,decide_eq_true_eq] at this;rw [inv.tsize];exact this.1
   have T0: ∀x:Nat×Tmp,x∈js→yf l.toArray x.1=some x.2∧D.getD x.1 false=true∧x.1< i:=by
    intro x hx
    have:=List.all_eq_true.1 j0 x hx
    simp only [Bool.and_eq_true,beq_iff_eq] at this;obtain ⟨oj,t0,e,he,hb,i0⟩:=Region.waitsFor_spec this.2;obtain rfl:o=oj:=Option.some.inj (ho.symm.trans t0);have ht:=zf c0 l0;simp only [ho,Option.map_some,Option.getD_some] at ht;have ht:=Array.all_eq_true_iff_forall_mem.1 ht e he;simp only [hb,Bool.not_true,Bool.false_or,decide_eq_true_eq] at ht;exact ⟨this.1,by rw [←i0];exact b0 e he hb,by rw [←i0];exact ht⟩
   have hA:=p0 D w inv.head.size (getD_both hu) (fun k hk=>by
    cases Y0:D.getD k false with
    |false=>rfl
    |true=>rw [PX (ops:=l.toArray) inv.head.closed inv.head.size (getD_both hu) n k Y0] at hk;cases hk) inv.cls
   have hW:=Ask.all (b:=a) (fun x hx=>by
    obtain ⟨h1,h2,h3⟩:=T0 x hx;have M0:x.1< us.length:=by omega
    have h4:us[x.1]? =some us[x.1]:=List.getElem?_eq_getElem M0;have h5:=inv.known x.1 _ h2 h4;rw [h1] at h5
    have:(us.map Pv.eq).getD x.1 Pv.any=Pv.eq us[x.1]:=by
     rw [List.getD_eq_getElem?_getD,List.getElem?_map,h4];rfl
    rw [this];exact h5) hA
   have P0:=Gq (Q:=Q) (ops:=l.toArray) (a0:=a0) (a:=a) (Region.noSelect_spec s0 i o · · ho) y0 ((ZZ _ _ _).trans inv.tsize.symm) (fun t ht=>by
    refine Zu a t _ _ inv.tsize.symm ?_;have h1:(o.looksAt l.toArray).all (fun t=>js.any (·.2==t)||Lp l.toArray n i t)=true:=by
     simpa only [yi,ho,Option.map_some,Option.getD_some] using k0
    have h2:=List.all_eq_true.1 h1 t ht;simp only [Bool.or_eq_true] at h2;rcases h2 with h2|h2
    ·left;obtain ⟨x,hx,L0⟩:=List.any_eq_true.1 h2;exact List.mem_map.2 ⟨x,hx,by rw [beq_iff_eq.1 L0]⟩
    ·right;refine (inv.rest t fun j hj hD e=> ?_).symm;have h3:=zf h2 hj;simp only [Bool.or_eq_true,bne_iff_ne,ne_eq,beq_iff_eq] at h3;rcases h3 with (h3|h3)|h3
     ·exact h3 e
     ·obtain ⟨oj,t0,e',V0,Z0,i0⟩:=Region.waitsFor_spec h3
      have:=inv.head.closed j oj t0 hD e' V0 Z0
      rw [i0,getD_both hu] at this;cases this
     ·subst h3;rw [getD_both hu] at hD;cases hD) ho (yx _ _ _) hW
   refine wpOp_mono (fun a' w' hk=> ?_) P0;obtain ⟨v,ha,hv,hg⟩:=hk;exact ih _ a' w' (Im inv f0 hi l0 ho (by omega) ha hv hg) (by have:=(VH (D:=D) (i:=i) n).2 l0 hu;omega)
 have h0:=K0 n (Array.replicate l.toArray.size false) a0 w0 ⟨⟨by simp,(fun j oj _ hD=>by rw [getD_replicate_false] at hD;cases hD),fun t _ ht=>by simp only [List.size_toArray] at ht ⊢;simp [ht]⟩,x0,rfl,rfl,fun _ _=>rfl,(fun j V hD=>by rw [getD_replicate_false] at hD;cases hD)⟩ (Yh _ n)
 rwa [show n+(l.toArray.size - n)=l.toArray.size by omega] at h0
theorem ZQ{u:Value}{K:World→Prop}{ds:List Deferred}{o:Oper}{a:Act}{w:World}(hw:Region.wanted o (yielded ops a.tmps)=true)
  (h: ∀K':Act→World→Prop,(∀a' w',a'.defers=ds→(match o.dst with|some d=>a'.eval (.tmp d)|none=>undef)=u→K w'→K' a' w')→o.wp P a w K' (Og u o.dst ds K)):wpList P ops (Og u o.dst ds K) [o] a w:=by
 unfold wpList;rw [if_pos hw];exact .inl (h _ fun a' w' h1 h2 h3=>⟨rfl,h1,h2,h3⟩)
end
section
variable {P:Program} {ops:Array Oper} {md:Region.Mode} {Q:Exit→Act→World→Prop} {n nn:Nat} {a0:Act} {w0:World}
theorem Uw{F:Fence}: ∀(l:List Oper) (k:Nat) (listed:Array Bool) (a:Act) (w:World),(∀j,l[j]? =ops[k+j]?)→
  Region.seqB md ops l.length k listed=true→wpListIn F nn P ops Q l a w→wpAnyIn F nn P md ops Q l.length listed a w
 | [],_,_,_,_,_,hB,h=>⟨by simpa [Region.seqB] using hB,h⟩
 |o::l,k,listed,a,w,hl,hB,h=>by
  have h0:ops[k]? =some o:=by simpa using (hl 0).symm
  simp only [List.length_cons,Region.seqB,Bool.and_eq_true,decide_eq_true_eq] at hB;refine ⟨fun h1=>(by rw [hB.1] at h1;cases h1),fun i hi=> ?_⟩;rw [hB.1] at hi;obtain rfl:i=k:=by simpa using hi
  have hw:wpOpIn F nn P ops Q i (wpListIn F nn P ops Q l) a w:=by unfold wpOpIn;simp only [h0];exact h
  exact wpOpIn_mono (fun a' w' h'=>Uw l (i+1) _ a' w' (fun j=>by have:=hl (j+1);simpa [Nat.add_assoc,Nat.add_comm 1 j] using this) hB.2 h') hw
theorem KB{V:Pv}{o:Oper}{a b:Act}{w:World}(hd: ∀c,o.op≠ .defer c)(hs: ∀cs b,o.op≠ .select cs b)(hdst: ∀d,o.dst=some d→d< a.tmps.size)(hsz:b.tmps.size=a.tmps.size)(hlook: ∀t∈o.looksAt ops,b.tmps[t]? =a.tmps[t]?){i:Nat}(hi:ops[i]? =some o)
  (hdf:b.defers=a0.defers) (h:wpList P ops (yF V o.dst a0.defers w) [o] b w):wpOpIn Fence.wide nn P ops Q i (fun a' w'=> ∃v,a'=a.put o.dst v∧V.p (match o.dst with|some _=>v|none=>undef) w'∧w.grownBy w' none) a w:=by
 have h2:=KC (Q:=fun _ _ _=>False) hs hdst hsz hlook hi hdf h;unfold wpOp at h2;unfold wpOpIn;simp only [hi] at h2 ⊢;split
 ·rename_i hw;rw [if_pos hw] at h2;rcases h2 with h2|h2
  ·refine ⟨fun _ _=>trivial, ?_⟩;rw [Oper.semAt_plain _ _ _ hd];unfold Oper.wp at h2;generalize (execOp a.eval o).run P w=r at *;cases r with
   |ok x w'=>
    cases x with
    |value v=>exact h2
    |skip=>exact h2
    |defer d=>exact h2
    |enter f args=>
     refine ⟨fun h=>by simp [Fence.wide] at h,callsIn_wide.2 (Calls.mono h2 fun e w'' he=> ?_)⟩;cases e with
     |returned v=>exact he
     |panicked c=>exact he.elim
     |outgrown=>obtain ⟨_,_,hx⟩:=he;exact hx.elim
    |row row args=>
     refine ⟨fun h=>by simp [Fence.wide] at h,fun c cs _=> ?_⟩;obtain ⟨v,w'',r,s⟩:=h2 c cs;exact ⟨v,w'',r,stepsIn_wide.2 s⟩
    |round l f ts c1 c2=>exact h2.elim
    |_=>exact h2.elim
   |halt x w'=>
    cases x with
    |panic v=>exact h2.elim
    |_=>exact h2.elim
  ·obtain ⟨_,_,_,hx⟩:=h2;exact hx.elim
 ·rename_i hw;rw [if_neg hw] at h2;exact ⟨fun _ _=>trivial,h2⟩
theorem Qz{l:List Oper}(n:Nat)(Q0:RJ l.toArray=true)(hB:Ys l.toArray n a0.tmps.size=true)
  (h:Oq P l.toArray n a0 w0 (fun Vs=> ∀w,w0.grownBy w none→Hr (fun a w=>wpListIn Fence.wide nn P l.toArray Q (l.drop n) a w) w Vs (l.take n) a0) [] (l.take n)):wpAnyIn Fence.wide nn P .any l.toArray Q l.toArray.size (Array.replicate l.toArray.size false) a0 w0:=by
 simp only [Ys,Bool.and_eq_true,decide_eq_true_eq] at hB;obtain ⟨⟨⟨⟨q0,hn⟩,d0⟩,c0⟩,f0⟩:=hB;simp only [MP,Bool.and_eq_true] at d0;obtain ⟨u0,p0⟩:=d0;obtain ⟨Vs,H0,hF,hO⟩:=Oq.out h;rw [List.nil_append] at hF;simp only [List.nil_append,List.length_nil,Nat.zero_add] at hO;have Z0:n≤l.length:=by simpa using hn
 have L0:(l.take n).length=n:=by simp;omega
 have x0:Vs.length=n:=H0.trans L0;have G0:(l.drop n).length=l.toArray.size - n:=by simp
 have k0: ∀i o,i< n→l.toArray[i]? =some o→(l.take n)[i]? =some o:=fun i o hi ho=>by
  rw [List.getElem?_take,if_pos hi];simpa using ho
 have I0: ∀m D a w,CY l.toArray n a0 w0 Vs D a w→cnt D n=m→wpAnyIn Fence.wide nn P .any l.toArray Q (m+(l.toArray.size - n)) D a w:=by
  intro m;induction m with
  |zero=>
   intro D a w inv hc;have b0:=xB hc;have hD:D=Array.replicate n true++Array.replicate (l.toArray.size - n) false:=by
    have M0:=inv.head.size;refine Array.ext (by simp [M0];omega) fun i h1 h2=> ?_
    rw [Array.getElem_append];by_cases hi:i< n
    ·have:=b0 i hi
     simp [h1] at this;simp [hi,this]
    ·have:=inv.head.tail i (by omega) (by omega)
     simp [h1] at this;simp [hi,this]
   have hk: ∀(k:Nat) (V:Pv) (o:Oper),Vs[k]? =some V→(l.take n)[k]? =some o→V.p (match o.dst with|some d=>a.eval (.tmp d)|none=>undef) w:=by
    intro k V o hv ho;have B0:k< n:=by have:=(List.getElem?_eq_some_iff.1 hv).1;omega
    have h1:=inv.known k V (b0 k B0) hv;have h2:yf l.toArray k=o.dst:=by
     have:l[k]? =some o:=by rw [List.getElem?_take,if_pos B0] at ho;exact ho
     simp [yf,this]
    rw [h2] at h1;have h3:(match o.dst with|some d=>a.eval (.tmp d)|none=>undef)=Rr o.dst a:=by cases o.dst<;>rfl
    rw [h3];exact h1
   have n0:=Hr.all H0 hk (hF w inv.grown);have i0:On a ((l.take n).map (·.dst)) a0=a:=by
    refine Tr (fun t=>Zu a t _ _ inv.tsize.symm ?_) ((yx _ _ _).trans inv.defers.symm);by_cases ht:some t∈(l.take n).map (·.dst)
    ·exact .inl ht
    ·refine .inr (inv.rest t fun j hj _ e=>ht ?_).symm;have D0:j< l.length:=by omega
     have:l[j].dst=some t:=by simpa [yf,D0] using e
     exact List.mem_map.2 ⟨l[j],List.mem_iff_getElem?.2 ⟨j,by rw [List.getElem?_take,if_pos hj,List.getElem?_eq_getElem D0]⟩,this⟩
   rw [i0] at n0
   have:=Uw (md:= .any) (l.drop n) n D a w (fun j=>by simp [List.getElem?_drop]) (by rw [G0,hD];exact p0) n0
   rw [G0] at this
   rwa [Nat.zero_add]
  |succ m ih=>
   intro D a w inv hc;have g0: ∀i∈Region.ready .any l.toArray D,i< n:=by
    intro i hi;rcases Nat.lt_or_ge i n with h'|h'
    ·exact h'
    ·obtain ⟨hu,oi,A0,b0⟩:=mem_ready.1 hi;have R0:i< l.toArray.size:=(Array.getElem?_eq_some_iff.1 A0).1;exfalso;obtain ⟨k,hk,s0⟩: ∃k,k< n∧D.getD k false=false:=by
      refine Classical.byContradiction fun O0=> ?_
      have: ∀k,k≤n→cnt D k=0:=by
       intro k;induction k with
       |zero=>intro _;rfl
       |succ k ihk=>
        intro hk;have h1:D.getD k false=true:=by
         refine Classical.byContradiction fun hx=>O0 ⟨k,by omega,by simpa using hx⟩
        simp only [cnt,h1,ihk (by omega)];rfl
      rw [this n (nRf _)] at hc;omega
     have hb:=zf u0 R0;simp only [Bool.or_eq_true,decide_eq_true_eq] at hb;have hb:=zf (hb.resolve_left (by omega)) hk;simp only [Bool.not_eq_true'] at hb;have F0:i≠k:=by omega
     have:av l.toArray k n i=true:=by
      have Y0:=fun f j hj=>PX (ops:=l.toArray) inv.head.closed inv.head.size s0 f j hj
      cases e0:n with
      |zero=>simp [av,F0]
      |succ f=>
       simp only [av,A0,Option.map_some,Option.getD_some,Bool.and_eq_true,bne_iff_ne];refine ⟨F0, ?_⟩;rw [Array.all_eq_true_iff_forall_mem];intro e he;by_cases y0:Region.binds .any e=true
       ·simp [y0,Y0 f e.on (b0 e he y0)]
       ·simp [y0]
     rw [hb] at this;cases this
   have P0:Region.ready .any l.toArray D≠ []:=by
    have T0: ∃k,k< n∧D.getD k false=false∧ ∀j,j< k→D.getD j false=true:=by
     have: ∀k,k≤n→(∃q,q< k∧D.getD q false=false∧ ∀j,j< q→D.getD j false=true)∨(cnt D k=0):=by
      intro k;induction k with
      |zero=>intro _;exact .inr rfl
      |succ k ihk=>
       intro hk;rcases ihk (by omega) with ⟨q,h1,h2⟩|h0
       ·exact .inl ⟨q,by omega,h2⟩
       ·cases hq:D.getD k false with
        |true=>right;simp only [cnt,hq,h0];rfl
        |false=>exact .inl ⟨k,by omega,hq,xB h0⟩
     rcases this n (nRf _) with ⟨q,h1,h2⟩|h0
     ·exact ⟨q,h1,h2⟩
     ·omega
    obtain ⟨k,hk,s0,v0⟩:=T0;have C0:k< l.toArray.size:=by omega
    have ho:l.toArray[k]? =some l.toArray[k]:=Array.getElem?_eq_getElem C0
    have:k∈Region.ready .any l.toArray D:=by
     refine mem_ready.2 ⟨getD_in (by rw [inv.head.size];exact C0) s0,_,ho,fun e he hb=>v0 _ ?_⟩;have ht:=zf c0 hk;simp only [ho,Option.map_some,Option.getD_some] at ht
     have:=Array.all_eq_true_iff_forall_mem.1 ht e he
     simpa [hb] using this
    intro e;rw [e] at this;cases this
   rw [show m+1+(l.toArray.size - n)=(m+(l.toArray.size - n))+1 by omega];refine ⟨fun e=>absurd e P0,fun i hi=> ?_⟩;have m0:=g0 i hi;obtain ⟨hu,o,ho,b0⟩:=mem_ready.1 hi;obtain ⟨V,js,hV,o0,z0⟩:=hO i o (k0 i o m0 ho);simp only [Bool.and_eq_true] at o0;obtain ⟨j0,l0⟩:=o0;have t0: ∀d,o.dst=some d→d< a.tmps.size:=by
    intro d hd
    have:=zf f0 m0
    have h2:yf l.toArray i=some d:=by simp only [yf,ho];exact hd
    rw [h2] at this;simp only [Bool.and_eq_true,decide_eq_true_eq] at this;rw [inv.tsize];exact this.1
   have S0: ∀x:Nat×Tmp,x∈js→yf l.toArray x.1=some x.2∧D.getD x.1 false=true∧x.1< i:=by
    intro x hx
    have:=List.all_eq_true.1 j0 x hx
    simp only [Bool.and_eq_true,beq_iff_eq] at this;obtain ⟨oj,r0,e,he,hb,i0⟩:=Region.waitsFor_spec this.2;obtain rfl:o=oj:=Option.some.inj (ho.symm.trans r0);have ht:=zf c0 m0;simp only [ho,Option.map_some,Option.getD_some] at ht;have ht:=Array.all_eq_true_iff_forall_mem.1 ht e he;simp only [hb,Bool.not_true,Bool.false_or,decide_eq_true_eq] at ht;exact ⟨this.1,by rw [←i0];exact b0 e he hb,by rw [←i0];exact ht⟩
   have hA:=z0 w inv.grown;have hW:=Ask.all (b:=a) (fun x hx=>by
    obtain ⟨h1,h2,h3⟩:=S0 x hx;have K0:x.1< Vs.length:=by omega
    have h4:Vs[x.1]? =some Vs[x.1]:=List.getElem?_eq_getElem K0;have h5:=inv.known x.1 _ h2 h4;rw [h1] at h5
    have:(Vs.take i).getD x.1 Pv.any=Vs[x.1]:=by
     rw [List.getD_eq_getElem?_getD,List.getElem?_take,if_pos h3,h4];rfl
    rw [this];exact h5) hA
   have N0:=KB (Q:=Q) (nn:=nn) (ops:=l.toArray) (fun c=>VT Q0 i o c ho) (a0:=a0) (a:=a) (Region.noSelect_spec q0 i o · · ho) t0 ((ZZ _ _ _).trans inv.tsize.symm) (fun t ht=>by
    refine Zu a t _ _ inv.tsize.symm ?_;have h1:(o.looksAt l.toArray).all (fun t=>js.any (·.2==t)||Lp l.toArray n i t)=true:=by
     simpa only [yi,ho,Option.map_some,Option.getD_some] using l0
    have h2:=List.all_eq_true.1 h1 t ht;simp only [Bool.or_eq_true] at h2;rcases h2 with h2|h2
    ·left;obtain ⟨x,hx,J0⟩:=List.any_eq_true.1 h2;exact List.mem_map.2 ⟨x,hx,by rw [beq_iff_eq.1 J0]⟩
    ·right;refine (inv.rest t fun j hj hD e=> ?_).symm;have h3:=zf h2 hj;simp only [Bool.or_eq_true,bne_iff_ne,ne_eq,beq_iff_eq] at h3;rcases h3 with (h3|h3)|h3
     ·exact h3 e
     ·obtain ⟨oj,r0,e',U0,V0,i0⟩:=Region.waitsFor_spec h3
      have:=inv.head.closed j oj r0 hD e' U0 V0
      rw [i0,getD_both hu] at this;cases this
     ·subst h3;rw [getD_both hu] at hD;cases hD) ho (yx _ _ _) hW
   refine wpOpIn_mono (fun a' w' hk=> ?_) N0;obtain ⟨v,ha,hv,hg⟩:=hk;exact ih _ a' w' (Pe inv f0 hi m0 ho hV (by omega) ha hv hg) (by have:=(VH (D:=D) (i:=i) n).2 m0 hu;omega)
 have h0:=I0 n (Array.replicate l.toArray.size false) a0 w0 ⟨⟨by simp,(fun j oj _ hD=>by rw [getD_replicate_false] at hD;cases hD),fun t _ ht=>by simp only [List.size_toArray] at ht ⊢;simp [ht]⟩,gRr w0 none,rfl,rfl,fun _ _=>rfl,(fun j V hD=>by rw [getD_replicate_false] at hD;cases hD)⟩ (Yh _ n)
 rwa [show n+(l.toArray.size - n)=l.toArray.size by omega] at h0
def DP(nn:Nat)(P:Program)(ops:Array Oper)(Q:Exit→Act→World→Prop)(w:World):List Pv→List Oper→Act→Prop
 |V::Vs,o::os,a=> ∀x,V.p x w→DP nn P ops Q w Vs os (a.put o.dst x)
 |_,os,a=>wpListIn Fence.wide nn P ops Q os a w
theorem DP.cut{w:World}: ∀{Vs:List Pv} {os:List Oper} {a:Act},Vs.length≤os.length→DP nn P ops Q w Vs os a→Hr (fun a w=>wpListIn Fence.wide nn P ops Q (os.drop Vs.length) a w) w Vs (os.take Vs.length) a
 | [],os,a,_,h=>by
  have h:wpListIn Fence.wide nn P ops Q os a w:=by cases os<;>exact h
  exact h
 |V::Vs, [],a,hl,_=>by simp at hl
 |V::Vs,o::os,a,hl,h=>fun x hx=>DP.cut (Vs:=Vs) (os:=os) (by simpa using hl) (h x hx)
theorem YA{l:List Oper}{id:Nat}(n:Nat)(hm:P.follows .mixedOrders=true)(hnd:RJ l.toArray=true)(hB:Ys l.toArray n a0.tmps.size=true)
  (h:zm P l.toArray n a0 w0.drew (fun Vs=> ∀w,w0.drew.grownBy w none→DP nn P l.toArray Q w Vs l a0) n [] l):(Code.region id l.toArray true).wpIn Fence.wide nn P Q a0 w0:=by
 refine wpIn_region_any hm ?_;obtain ⟨hM,hn⟩:=Qr.cut (zm.up h);refine Qz n hnd hB (Oq.weak hM fun Ws hW hF w hw=> ?_);have hl:Ws.length=n:=by simp only [List.length_nil,Nat.zero_add] at hW;rw [hW];simp;omega
 have:=DP.cut (by rw [hl];exact hn) (hF w hw)
 rwa [hl] at this
end
structure Lt where
 C:List Value→World→Prop
 R:Nat→World→World→Prop
 g: ∀{vs w w'},C vs w→w.grownBy w' none→C vs w'
structure Qv (L:Lt) where
 p:List Value→Value→World→Prop
 fr:Nat
 st: ∀{vs v w w'},p vs v w→w.grownBy w' none→p vs v w'
 sr: ∀{vs u v w w'},fr≤vs.length→L.C vs w→L.R vs.length w w'→p vs v w→p (vs++ [u]) v w'
def Qv.any{L:Lt}:Qv L:=⟨fun _ _ _=>True,0,fun _ _=>trivial,fun _ _ _ _=>trivial⟩
def Qv.eq{L:Lt}(u:Value):Qv L:=⟨fun _ v _=>v=u,0,fun h _=>h,fun _ _ _ h=>h⟩
def Qv.slot{L:Lt}(q:Nat):Qv L:=⟨fun vs v _=>vs[q]? =some v,q+1,fun h _=>h,fun _ _ _ h=>by
 have:=(List.getElem?_eq_some_iff.1 h).1
 rw [List.getElem?_append_left this];exact h⟩
section
variable {L:Lt} {late:List Nat} {P:Program} {ops:Array Oper} {Q:Exit→Act→World→Prop} {n:Nat} {a0:Act} {w0:World}
def yQ(T:Value→World→Prop)(dst:Option Tmp)(ds:List Deferred):Exit→Act→World→Prop:=fun e a' w'=>e= .normal∧a'.defers=ds∧T (match dst with|some d=>a'.eval (.tmp d)|none=>undef) w'
def VM(P:Program)(ops:Array Oper)(vs:List Value)(Vs:List (Qv L))(Qt:Exit→Act→World→Prop)(o:Oper)(w:World):List (Nat×Tmp)→Act→Prop
 | [],a=>wpList P ops Qt [o] a w
 |(j,d)::js,a=> ∀x,(Vs.getD j Qv.any).p vs x w→VM P ops vs Vs Qt o w js (a.put (some d) x)
def CP(L:Lt)(late:List Nat)(P:Program)(ops:Array Oper)(Vs:List (Qv L))(ds:List Deferred)(i:Nat)(V:Qv L)(o:Oper)(js:List (Nat×Tmp))(a0:Act):Prop:=
 (late.contains i=false∧V.fr=0∧ ∀vs w,L.C vs w→VM P ops vs Vs (yQ (fun v w'=>V.p vs v w'∧w.grownBy w' none) o.dst ds) o w js a0)∨
 (∃q,late[q]? =some i∧V=Qv.slot q∧ ∀vs w,vs.length=q→L.C vs w→VM P ops vs Vs (yQ (fun v w'=>L.R q w w'∧L.C (vs++ [v]) w') o.dst ds) o w js a0)
def LateR(L:Lt)(late:List Nat)(P:Program)(ops:Array Oper)(n:Nat)(a0:Act)(F:List (Qv L)→Prop):Nat→List (Qv L)→List Oper→Prop
 |0,Rs,_=>F Rs.reverse
 |_+1,_, []=>False
 |k+1,Rs,o::os=> ∃(V:Qv L) (js:List (Nat×Tmp)),(yw ops Rs.length js && yi ops n Rs.length js)=true∧CP L late P ops Rs.reverse a0.defers Rs.length V o js a0∧LateR L late P ops n a0 F k (V::Rs) os
theorem LateR.mono{F:List (Qv L)→Prop}{k:Nat}{Rs:List (Qv L)}{o:Oper}{os:List Oper}(V:Qv L)(js:List (Nat×Tmp))(hc:(yw ops Rs.length js && yi ops n Rs.length js)=true)(hl:late.contains Rs.length=false)(hf:V.fr=0)(hA: ∀vs w,L.C vs w→VM P ops vs Rs.reverse (yQ (fun v w'=>V.p vs v w'∧w.grownBy w' none) o.dst a0.defers) o w js a0)(h:LateR L late P ops n a0 F k (V::Rs) os):LateR L late P ops n a0 F (k+1) Rs (o::os):=⟨V,js,hc, .inl ⟨hl,hf,hA⟩,h⟩
theorem LateR.turn{F:List (Qv L)→Prop}{k:Nat}{Rs:List (Qv L)}{o:Oper}{os:List Oper}(q:Nat)(js:List (Nat×Tmp))(hc:(yw ops Rs.length js && yi ops n Rs.length js)=true)(hl:late[q]? =some Rs.length)(hA: ∀vs w,vs.length=q→L.C vs w→VM P ops vs Rs.reverse (yQ (fun v w'=>L.R q w w'∧L.C (vs++ [v]) w') o.dst a0.defers) o w js a0)(h:LateR L late P ops n a0 F k (Qv.slot q::Rs) os):LateR L late P ops n a0 F (k+1) Rs (o::os):=⟨Qv.slot q,js,hc, .inr ⟨q,hl,rfl,hA⟩,h⟩
theorem LateR.out{F:List (Qv L)→Prop}: ∀{k:Nat} {Rs:List (Qv L)} {os:List Oper},LateR L late P ops n a0 F k Rs os→k≤os.length∧ ∃Ws:List (Qv L),Ws.length=k∧F (Rs.reverse++Ws)∧ ∀m o,m< k→os[m]? =some o→ ∃V js,Ws[m]? =some V∧(yw ops (Rs.length+m) js && yi ops n (Rs.length+m) js)=true∧CP L late P ops ((Rs.reverse++Ws).take (Rs.length+m)) a0.defers (Rs.length+m) V o js a0
 |0,Rs,os,h=>⟨Nat.zero_le _, [],rfl,by rw [List.append_nil];exact h,fun m o hm=>by omega⟩
 |_+1,_, [],h=>h.elim
 |k+1,Rs,o::os,⟨V,js,hb,hA,hM⟩=>by
  obtain ⟨hkl,Ws,hl,hF,hk⟩:=LateR.out hM;refine ⟨by simpa using hkl,V::Ws,by simp [hl],by simpa using hF,fun m o' hm ho=> ?_⟩;cases m with
  |zero=>
   obtain rfl:o=o':=by simpa using ho
   refine ⟨V,js,rfl,hb, ?_⟩
   have:(Rs.reverse++V::Ws).take (Rs.length+0)=Rs.reverse:=by
    rw [Nat.add_zero, ←List.length_reverse];exact List.take_left
   rw [this];exact hA
  |succ m=>
   obtain ⟨V',js',h1,h2,h3⟩:=hk m o' (by omega) (by simpa using ho);refine ⟨V',js',by simpa using h1, ?_, ?_⟩
   ·simpa [Nat.add_assoc,Nat.add_comm 1 m] using h2
   ·simpa [Nat.add_assoc,Nat.add_comm 1 m] using h3
def XD(G:Act→World→Prop)(vs:List Value)(w:World):List (Qv L)→List Oper→Act→Prop
 |V::Vs,o::os,a=> ∀x,V.p vs x w→XD G vs w Vs os (a.put o.dst x)
 |_,_,a=>G a w
theorem XD.all{G:Act→World→Prop}{vs:List Value}{w:World}{b:Act}: ∀{Vs:List (Qv L)} {os:List Oper} {a:Act},Vs.length=os.length→(∀(k:Nat) (V:Qv L) (o:Oper),Vs[k]? =some V→os[k]? =some o→V.p vs (match o.dst with|some d=>b.eval (.tmp d)|none=>undef) w)→XD G vs w Vs os a→G (On b (os.map (·.dst)) a) w
 | [], [],_,_,_,h=>h
 |V::Vs,o::os,a,hl,hx,h=>XD.all (Vs:=Vs) (os:=os) (by simpa using hl) (fun k V o hv ho=>hx (k+1) V o (by simpa using hv) (by simpa using ho)) (h _ (hx 0 V o rfl rfl))
 | [],_::_,_,hl,_,_=>by simp at hl
 |_::_, [],_,hl,_,_=>by simp at hl
theorem VM.all{vs:List Value}{Vs:List (Qv L)}{Qt:Exit→Act→World→Prop}{o:Oper}{w:World}{b:Act}: ∀{js:List (Nat×Tmp)} {a:Act},(∀x:Nat×Tmp,x∈js→(Vs.getD x.1 Qv.any).p vs (b.eval (.tmp x.2)) w)→VM P ops vs Vs Qt o w js a→wpList P ops Qt [o] (On b (js.map fun x=>some x.2) a) w
 | [],_,_,h=>h
 |(j,d)::js,a,hx,h=>VM.all (js:=js) (fun x hm=>hx x (mCm _ hm)) (h _ (hx (j,d) (by simp)))
def Cls(L:Lt)(late:List Nat)(vs:List Value)(D:Array Bool)(w:World):Prop:=vs.length≤late.length∧L.C vs w∧ ∀q i,late[q]? =some i→(D.getD i false=true↔q< vs.length)
structure DH (L:Lt) (late:List Nat) (ops:Array Oper) (n:Nat) (a0:Act) (Vs:List (Qv L)) (vs:List Value) (D:Array Bool) (a:Act) (w:World):Prop where
 head:HeadInv .any ops n D
 cls:Cls L late vs D w
 tsize:a.tmps.size=a0.tmps.size
 defers:a.defers=a0.defers
 rest: ∀t,(∀j,j< n→D.getD j false=true→yf ops j≠some t)→a.tmps[t]? =a0.tmps[t]?
 known: ∀j V,D.getD j false=true→Vs[j]? =some V→V.p vs (Rr (yf ops j) a) w
theorem xy{T:Value→World→Prop}{dst:Option Tmp}{ds:List Deferred}: ¬LetsOut (yQ T dst ds):=by
 rintro ⟨a,w',e,_⟩;cases e
def Cz(ops:Array Oper)(late:List Nat):Bool:=(List.range (late.length - 1)).all fun q=>Region.waitsFor .any ops (late.getD (q+1) 0) (late.getD q 0)
def RS(ops:Array Oper)(n:Nat)(late:List Nat):Bool:=late.all (fun i=>decide (i< n)) && decide late.Nodup && Cz ops late
theorem Rt{T:Value→World→Prop}{o:Oper}{a b:Act}{w:World}(hs: ∀cs b,o.op≠ .select cs b)(hd: ∀d,o.dst=some d→d< a.tmps.size)(hsz:b.tmps.size=a.tmps.size)(hlook: ∀t∈o.looksAt ops,b.tmps[t]? =a.tmps[t]?){i:Nat}(hi:ops[i]? =some o)
  (hdf:b.defers=a0.defers) (h:wpList P ops (yQ T o.dst a0.defers) [o] b w):wpOp P ops Q i (fun a' w'=> ∃v,a'=a.put o.dst v∧T (match o.dst with|some _=>v|none=>undef) w') a w:=by
 have hex:execOp b.eval o=execOp a.eval o:=execOp_congr o hs fun x hx=>by
  cases x with
  |tmp t=>exact YR _ _ _ (hlook t (mAl _ (List.mem_filterMap.2 ⟨.tmp t,by simpa using hx,rfl⟩)))
  |_=>rfl
 have hwn:Region.wanted o (yielded ops b.tmps)=Region.wanted o (yielded ops a.tmps):=by
  unfold Region.wanted;cases hg:o.guard with
  |none=>rfl
  |some gw=>
   obtain ⟨g,want⟩:=gw;have hy:yielded ops b.tmps g=yielded ops a.tmps g:=by
    unfold yielded;cases ht:(ops[g]?).bind (·.dst) with
    |none=>rfl
    |some t=>simp only [Option.bind_some,hlook t (by simp [Oper.looksAt,hg,ht])]
   simp only [hy]
 have fin: ∀v w',yQ T o.dst a0.defers .normal (b.put o.dst v) w'→ ∃v',a.put o.dst v=a.put o.dst v'∧T (match o.dst with|some _=>v'|none=>undef) w':=by
  rintro v w' ⟨_,_,h1⟩;refine ⟨v,rfl, ?_⟩;cases hdd:o.dst with
  |none=>rw [hdd] at h1;exact h1
  |some d=>
   rw [hdd] at h1;have hlt:=hd d hdd
   have:(b.put (some d) v).eval (.tmp d)=v:=by simp [Act.put,Act.eval,Array.getD_eq_getD_getElem?,hsz,hlt]
   simp only [this] at h1;exact h1
 unfold wpOp;simp only [hi];simp only [wpList,hwn] at h;split
 ·rename_i hw;rw [if_pos hw] at h;rcases h with h|h
  ·left;unfold Oper.wp at h ⊢;rw [hex] at h;generalize (execOp a.eval o).run P w=r at *;cases r with
   |ok x w'=>
    cases x with
    |value v=>exact fin v w' h
    |skip=>exact fin undef w' h
    |enter f args=>
     refine Calls.mono h fun e w'' he=> ?_
     cases e with
     |returned u=>exact fin u w'' he
     |panicked c=>exact absurd he.1 (by simp)
     |outgrown=>exact absurd he xy
    |row row args=>exact Rows.mono h fun u w'' he=>fin u w'' he
    |defer d=>
     obtain ⟨_,h1,_⟩:=h;have h1:(Act.put {b with defers:=d::b.defers} o.dst undef).defers=a0.defers:=h1;rw [xd, ←hdf] at h1;exact absurd (congrArg List.length h1) (by simp)
    |_=>exact h.elim
   |halt x w'=>
    cases x with
    |panic v=>exact absurd h.1 (by simp)
    |_=>exact h.elim
  ·exact absurd h.2 xy
 ·rename_i hw;rw [if_neg hw] at h;exact fin undef w h
theorem UV{L:Lt}{late:List Nat}{vs vs2:List Value}{Vs:List (Qv L)}{D:Array Bool}{a a':Act}{w w':World}{i:Nat}{o:Oper}{V:Qv L}{v:Value}(inv:DH L late ops n a0 Vs vs D a w)(hd:IF ops n a0.tmps.size=true)(hi:i∈Region.ready .any ops D)(hin:i< n)(ho:ops[i]? =some o)(hV:Vs[i]? =some V)(hnl:Vs.length≤n)
  (ha:a'=a.put o.dst v) (hv:V.p vs2 (match o.dst with|some _=>v|none=>undef) w') (hg: ∀(W:Qv L) (j:Nat),D.getD j false=true→Vs[j]? =some W→ ∀{u:Value},W.p vs u w→W.p vs2 u w') (hcl:Cls L late vs2 (D.setIfInBounds i true) w'):DH L late ops n a0 Vs vs2 (D.setIfInBounds i true) a' w':=by
 subst ha;have hdi:yf ops i=o.dst:=by simp [yf,ho]
 have hun:D.getD i true=false:=(mem_ready.1 hi).1;have hlt:i< D.size:=by
  rcases Nat.lt_or_ge i D.size with h'|h'
  ·exact h'
  ·simp [Array.getElem?_eq_none h'] at hun
 refine ⟨inv.head.set hi hin,hcl,(YW _ _ _).trans inv.tsize,(xd _ _ _).trans inv.defers,fun t ht=> ?_,fun j W hj hW=> ?_⟩
 ·have h1:o.dst≠some t:=fun e=>ht i hin (by simp [hlt]) (hdi.trans e)
  refine Eq.trans ?_ (inv.rest t fun j hj hD=>ht j hj (getD_set_true hD));cases hdd:o.dst with
  |none=>rfl
  |some d=>exact XO _ _ _ _ (fun e=>h1 (by rw [hdd,e]))
 ·by_cases e:i=j
  ·subst e;obtain rfl:V=W:=Option.some.inj (hV.symm.trans hW);rw [hdi];cases hdd:o.dst with
   |none=>rw [hdd] at hv;exact hv
   |some d=>
    rw [hdd] at hv;have hds:=zf hd hin;rw [hdi,hdd] at hds;simp only [Bool.and_eq_true,decide_eq_true_eq] at hds
    have:(a.put (some d) v).eval (.tmp d)=v:=by simp [Act.put,Act.eval,Array.getD_eq_getD_getElem?,inv.tsize,hds.1]
    show V.p vs2 ((a.put (some d) v).eval (.tmp d)) w';rw [this];exact hv
  ·have hjn:j< n:=by have:=(List.getElem?_eq_some_iff.1 hW).1;omega
   rw [getD_set_ne false e] at hj;have h1:=hg W j hj hW (inv.known j W hj hW);cases hdj:yf ops j with
   |none=>rw [hdj] at h1;exact h1
   |some dj=>
    rw [hdj] at h1;have h1:W.p vs2 (a.eval (.tmp dj)) w':=h1;show W.p vs2 ((a.put o.dst v).eval (.tmp dj)) w';cases hdd:o.dst with
    |none=>exact h1
    |some d=>
     have hds:=zf hd hin;rw [hdi,hdd] at hds;simp only [Bool.and_eq_true,decide_eq_true_eq] at hds;have h2:=zf hds.2 hjn;simp only [Bool.or_eq_true,beq_iff_eq,bne_iff_ne,ne_eq] at h2;have h3:d≠dj:=fun e'=>(h2.resolve_left (fun e2=>e e2.symm)) (by rw [hdj,e'])
     rw [YR _ a dj (XO a d dj v h3)];exact h1
theorem Vu{l:List Oper}(n:Nat)(hB:Ys l.toArray n a0.tmps.size=true)(U0:RS l.toArray n late=true)(n1:L.C [] w0)
  (h:LateR L late P l.toArray n a0 (fun Vs=> ∀vs w,vs.length=late.length→L.C vs w→XD (fun a w=>wpList P l.toArray Q (l.drop n) a w) vs w Vs (l.take n) a0) n [] l):wpAny P .any l.toArray Q l.toArray.size (Array.replicate l.toArray.size false) a0 w0:=by
 simp only [Ys,Bool.and_eq_true,decide_eq_true_eq] at hB;obtain ⟨⟨⟨⟨z0,hn⟩,d0⟩,c0⟩,g0⟩:=hB;simp only [MP,Bool.and_eq_true] at d0;obtain ⟨H0,y0⟩:=d0;simp only [RS,Bool.and_eq_true,decide_eq_true_eq] at U0;obtain ⟨⟨B0,a1⟩,i1⟩:=U0;have r0: ∀i∈late,i< n:=fun i hi=>by simpa using List.all_eq_true.1 B0 i hi
 have l0: ∀q,q+1< late.length→ ∀i,late[q+1]? =some i→ ∀i',late[q]? =some i'→Region.waitsFor .any l.toArray i i'=true:=fun q hq i h1 i' h2=>by
  have:=zf i1 (show q< late.length - 1 by omega)
  rw [List.getD_eq_getElem?_getD,List.getD_eq_getElem?_getD,h1,h2] at this;exact this
 obtain ⟨_,Vs,T0,hF,hO⟩:=LateR.out h;rw [List.reverse_nil,List.nil_append] at hF;simp only [List.reverse_nil,List.nil_append,List.length_nil,Nat.zero_add] at hO;have o1:n≤l.length:=by simpa using hn
 have e0:(l.take n).length=n:=by simp;omega
 have q1:Vs.length=n:=T0;have d1: ∀j W,Vs[j]? =some W→(late.contains j=false∧W.fr=0)∨ ∃q,late[q]? =some j∧W.fr≤q+1:=fun j W hW=>by
  have hj:j< n:=by have:=(List.getElem?_eq_some_iff.1 hW).1;omega
  obtain ⟨V,js,hV,_,m0⟩:=hO j l[j] hj (List.getElem?_eq_getElem (by omega));obtain rfl:V=W:=Option.some.inj (hV.symm.trans hW);rcases m0 with ⟨h1,h2,_⟩|⟨q,h1,h2,_⟩
  ·exact .inl ⟨h1,h2⟩
  ·exact .inr ⟨q,h1,by rw [h2];exact nRf _⟩
 have S0:(l.drop n).length=l.toArray.size - n:=by simp
 have M0: ∀i o,i< n→l.toArray[i]? =some o→(l.take n)[i]? =some o:=fun i o hi ho=>by
  rw [List.getElem?_take,if_pos hi];simpa using ho
 have V0: ∀m vs D a w,DH L late l.toArray n a0 Vs vs D a w→cnt D n=m→wpAny P .any l.toArray Q (m+(l.toArray.size - n)) D a w:=by
  intro m;induction m with
  |zero=>
   intro vs D a w inv hc;have b0:=xB hc;have hD:D=Array.replicate n true++Array.replicate (l.toArray.size - n) false:=by
    have x0:=inv.head.size;refine Array.ext (by simp [x0];omega) fun i h1 h2=> ?_
    rw [Array.getElem_append];by_cases hi:i< n
    ·have:=b0 i hi
     simp [h1] at this;simp [hi,this]
    ·have:=inv.head.tail i (by omega) (by omega)
     simp [h1] at this;simp [hi,this]
   have hk: ∀(k:Nat) (V:Qv L) (o:Oper),Vs[k]? =some V→(l.take n)[k]? =some o→V.p vs (match o.dst with|some d=>a.eval (.tmp d)|none=>undef) w:=by
    intro k V o hv ho;have N0:k< n:=by have:=(List.getElem?_eq_some_iff.1 hv).1;omega
    have h1:=inv.known k V (b0 k N0) hv;have h2:yf l.toArray k=o.dst:=by
     have:l[k]? =some o:=by rw [List.getElem?_take,if_pos N0] at ho;exact ho
     simp [yf,this]
    rw [h2] at h1;have h3:(match o.dst with|some d=>a.eval (.tmp d)|none=>undef)=Rr o.dst a:=by cases o.dst<;>rfl
    rw [h3];exact h1
   have v0:vs.length=late.length∧L.C vs w:=by
    obtain ⟨P0,n0,k0⟩:=inv.cls;rcases Nat.lt_or_ge vs.length late.length with h|h
    case inr=>exact ⟨by omega,n0⟩
    ·have h1:=(k0 vs.length late[vs.length] (List.getElem?_eq_getElem h)).1 (b0 _ (r0 _ (lGm h)));omega
   have t0:=XD.all (T0.trans e0.symm) hk (hF vs w v0.1 v0.2);have f0:On a ((l.take n).map (·.dst)) a0=a:=by
    refine Tr (fun t=>Zu a t _ _ inv.tsize.symm ?_) ((yx _ _ _).trans inv.defers.symm);by_cases ht:some t∈(l.take n).map (·.dst)
    ·exact .inl ht
    ·refine .inr (inv.rest t fun j hj _ e=>ht ?_).symm;have Q0:j< l.length:=by omega
     have:l[j].dst=some t:=by simpa [yf,Q0] using e
     exact List.mem_map.2 ⟨l[j],List.mem_iff_getElem?.2 ⟨j,by rw [List.getElem?_take,if_pos hj,List.getElem?_eq_getElem Q0]⟩,this⟩
   rw [f0] at t0
   have:=wpAny_of_seq (md:= .any) (Q':=Q) (l.drop n) n D a w (fun j=>by simp [List.getElem?_drop]) (by rw [S0,hD];exact y0) t0
   rw [S0] at this
   rwa [Nat.zero_add]
  |succ m ih=>
   intro vs D a w inv hc;have i0: ∀i∈Region.ready .any l.toArray D,i< n:=by
    intro i hi;rcases Nat.lt_or_ge i n with h'|h'
    ·exact h'
    ·obtain ⟨hu,oi,L0,b0⟩:=mem_ready.1 hi;have C0:i< l.toArray.size:=(Array.getElem?_eq_some_iff.1 L0).1;exfalso;obtain ⟨k,hk,D0⟩: ∃k,k< n∧D.getD k false=false:=by
      refine Classical.byContradiction fun X0=> ?_
      have: ∀k,k≤n→cnt D k=0:=by
       intro k;induction k with
       |zero=>intro _;rfl
       |succ k ihk=>
        intro hk;have h1:D.getD k false=true:=by
         refine Classical.byContradiction fun hx=>X0 ⟨k,by omega,by simpa using hx⟩
        simp only [cnt,h1,ihk (by omega)];rfl
      rw [this n (nRf _)] at hc;omega
     have hb:=zf H0 C0;simp only [Bool.or_eq_true,decide_eq_true_eq] at hb;have hb:=zf (hb.resolve_left (by omega)) hk;simp only [Bool.not_eq_true'] at hb;have R0:i≠k:=by omega
     have:av l.toArray k n i=true:=by
      have k1:=fun f j hj=>PX (ops:=l.toArray) inv.head.closed inv.head.size D0 f j hj
      cases p1:n with
      |zero=>simp [av,R0]
      |succ f=>
       simp only [av,L0,Option.map_some,Option.getD_some,Bool.and_eq_true,bne_iff_ne];refine ⟨R0, ?_⟩;rw [Array.all_eq_true_iff_forall_mem];intro e he;by_cases J0:Region.binds .any e=true
       ·simp [J0,k1 f e.on (b0 e he J0)]
       ·simp [J0]
     rw [hb] at this;cases this
   have A0:Region.ready .any l.toArray D≠ []:=by
    have f1: ∃k,k< n∧D.getD k false=false∧ ∀j,j< k→D.getD j false=true:=by
     have: ∀k,k≤n→(∃q,q< k∧D.getD q false=false∧ ∀j,j< q→D.getD j false=true)∨(cnt D k=0):=by
      intro k;induction k with
      |zero=>intro _;exact .inr rfl
      |succ k ihk=>
       intro hk;rcases ihk (by omega) with ⟨q,h1,h2⟩|h0
       ·exact .inl ⟨q,by omega,h2⟩
       ·cases hq:D.getD k false with
        |true=>right;simp only [cnt,hq,h0];rfl
        |false=>exact .inl ⟨k,by omega,hq,xB h0⟩
     rcases this n (nRf _) with ⟨q,h1,h2⟩|h0
     ·exact ⟨q,h1,h2⟩
     ·omega
    obtain ⟨k,hk,D0,I0⟩:=f1;have O0:k< l.toArray.size:=by omega
    have ho:l.toArray[k]? =some l.toArray[k]:=Array.getElem?_eq_getElem O0
    have:k∈Region.ready .any l.toArray D:=by
     refine mem_ready.2 ⟨getD_in (by rw [inv.head.size];exact O0) D0,_,ho,fun e he hb=>I0 _ ?_⟩;have ht:=zf c0 hk;simp only [ho,Option.map_some,Option.getD_some] at ht
     have:=Array.all_eq_true_iff_forall_mem.1 ht e he
     simpa [hb] using this
    intro e;rw [e] at this;cases this
   rw [show m+1+(l.toArray.size - n)=(m+(l.toArray.size - n))+1 by omega];refine ⟨fun e=>absurd e A0,fun i hi=> ?_⟩;have s0:=i0 i hi;obtain ⟨hu,o,ho,b0⟩:=mem_ready.1 hi;obtain ⟨V,js,hV,u0,m0⟩:=hO i o s0 (by simpa using ho);simp only [Bool.and_eq_true] at u0;obtain ⟨o0,q0⟩:=u0;have G0: ∀d,o.dst=some d→d< a.tmps.size:=by
    intro d hd
    have:=zf g0 s0
    have h2:yf l.toArray i=some d:=by simp only [yf,ho];exact hd
    rw [h2] at this;simp only [Bool.and_eq_true,decide_eq_true_eq] at this;rw [inv.tsize];exact this.1
   have c1: ∀x:Nat×Tmp,x∈js→yf l.toArray x.1=some x.2∧D.getD x.1 false=true∧x.1< i:=by
    intro x hx
    have:=List.all_eq_true.1 o0 x hx
    simp only [Bool.and_eq_true,beq_iff_eq] at this;obtain ⟨oj,p0,e,he,hb,f0⟩:=Region.waitsFor_spec this.2;obtain rfl:o=oj:=Option.some.inj (ho.symm.trans p0);have ht:=zf c0 s0;simp only [ho,Option.map_some,Option.getD_some] at ht;have ht:=Array.all_eq_true_iff_forall_mem.1 ht e he;simp only [hb,Bool.not_true,Bool.false_or,decide_eq_true_eq] at ht;exact ⟨this.1,by rw [←f0];exact b0 e he hb,by rw [←f0];exact ht⟩
   have F0: ∀x:Nat×Tmp,x∈js→((Vs.take i).getD x.1 Qv.any).p vs (a.eval (.tmp x.2)) w:=fun x hx=>by
    obtain ⟨h1,h2,h3⟩:=c1 x hx;have Z0:x.1< Vs.length:=by omega
    have h4:Vs[x.1]? =some Vs[x.1]:=List.getElem?_eq_getElem Z0;have h5:=inv.known x.1 _ h2 h4;rw [h1] at h5
    have:(Vs.take i).getD x.1 Qv.any=Vs[x.1]:=by
     rw [List.getD_eq_getElem?_getD,List.getElem?_take,if_pos h3,h4];rfl
    rw [this];exact h5
   obtain ⟨P0,n0,k0⟩:=inv.cls;have b1: ∀t∈o.looksAt l.toArray,(On a (js.map fun x=>some x.2) a0).tmps[t]? =a.tmps[t]? :=fun t ht=>by
    refine Zu a t _ _ inv.tsize.symm ?_;have h1:(o.looksAt l.toArray).all (fun t=>js.any (·.2==t)||Lp l.toArray n i t)=true:=by
     simpa only [yi,ho,Option.map_some,Option.getD_some] using q0
    have h2:=List.all_eq_true.1 h1 t ht;simp only [Bool.or_eq_true] at h2;rcases h2 with h2|h2
    ·left;obtain ⟨x,hx,Y0⟩:=List.any_eq_true.1 h2;exact List.mem_map.2 ⟨x,hx,by rw [beq_iff_eq.1 Y0]⟩
    ·right;refine (inv.rest t fun j hj hD e=> ?_).symm;have h3:=zf h2 hj;simp only [Bool.or_eq_true,bne_iff_ne,ne_eq,beq_iff_eq] at h3;rcases h3 with (h3|h3)|h3
     ·exact h3 e
     ·obtain ⟨oj,p0,e',g1,j1,f0⟩:=Region.waitsFor_spec h3
      have:=inv.head.closed j oj p0 hD e' g1 j1
      rw [f0,getD_both hu] at this;cases this
     ·subst h3;rw [getD_both hu] at hD;cases hD
   obtain ⟨T,hA,hS⟩: ∃T:Value→World→Prop,VM P l.toArray vs (Vs.take i) (yQ T o.dst a0.defers) o w js a0∧(∀v w',T v w'→ ∃vs2,V.p vs2 v w'∧(∀(W:Qv L) (j:Nat),D.getD j false=true→Vs[j]? =some W→ ∀{u:Value},W.p vs u w→W.p vs2 u w')∧Cls L late vs2 (D.setIfInBounds i true) w'):=by
    rcases m0 with ⟨hnl',_,hA⟩|⟨q,hq,hVq,hA⟩
    ·have A0: ∀q i',late[q]? =some i'→i≠i':=fun q i' hq e=>by
      subst e
      have:=List.contains_iff_mem.2 (List.mem_of_getElem? hq)
      rw [hnl'] at this;cases this
     exact ⟨_,hA vs w n0,fun v w' hg=>⟨vs,hg.1,fun W j _ _ _ hp=>W.st hp hg.2,P0,L.g n0 hg.2,fun q i' hq=>by rw [getD_set_ne false (A0 q i' hq)];exact k0 q i' hq⟩⟩
    ·have l1:D.getD i false=false:=getD_both hu;have h1: ¬q< vs.length:=fun h=>by have:=(k0 q i hq).2 h;rw [l1] at this;cases this
     have h2:q≤vs.length:=by
      cases q with
      |zero=>omega
      |succ q=>
       have K0:q< late.length:=by have:=(List.getElem?_eq_some_iff.1 hq).1;omega
       have hw:=l0 q (by have:=(List.getElem?_eq_some_iff.1 hq).1;omega) i hq late[q] (List.getElem?_eq_getElem K0);obtain ⟨oj,p0,e,he,hb,f0⟩:=Region.waitsFor_spec hw;obtain rfl:o=oj:=Option.some.inj (ho.symm.trans p0);have h3:=b0 e he hb;rw [f0] at h3
       have:=(k0 q _ (List.getElem?_eq_getElem K0)).1 h3
       omega
     obtain rfl:q=vs.length:=by omega
     refine ⟨_,hA vs w rfl n0,fun v w' hg=>⟨vs++ [v],(by rw [hVq];show (vs++ [v])[vs.length]? =some v;simp),fun W j hj hW _ hp=>W.sr ?_ n0 hg.1 hp,by rw [lLa];exact (List.getElem?_eq_some_iff.1 hq).1,hg.2,fun q' i' j0=> ?_⟩⟩
     ·rcases d1 j W hW with ⟨_,h4⟩|⟨q',j0,h4⟩
      ·rw [h4];exact Nat.zero_le _
      ·have:=(k0 q' j j0).1 hj
       omega
     ·by_cases e:i=i'
      ·subst e;have E0:q'=vs.length:=by
        have h5:=(List.getElem?_eq_some_iff.1 j0).1
        skip
        exact (List.getElem?_inj h5 a1).1 (j0.trans hq.symm)
       have C0:i< D.size:=by
        rw [inv.head.size];exact (Array.getElem?_eq_some_iff.1 ho).1
       simp [C0,E0]
      ·rw [getD_set_ne false e,k0 q' i' j0]
       have:q'≠vs.length:=fun e'=>e (by rw [e',hq] at j0;exact Option.some.inj j0)
       simp only [List.length_append,List.length_singleton];omega
   have hW:=VM.all (b:=a) F0 hA;have W0:=Rt (Q:=Q) (ops:=l.toArray) (a0:=a0) (a:=a) (Region.noSelect_spec z0 i o · · ho) G0 ((ZZ _ _ _).trans inv.tsize.symm) b1 ho (yx _ _ _) hW;refine wpOp_mono (fun a' w' hk=> ?_) W0;obtain ⟨v,ha,hT⟩:=hk;obtain ⟨vs2,hv,hs,v0⟩:=hS _ w' hT;exact ih vs2 _ a' w' (UV inv g0 hi s0 ho hV (by omega) ha hv hs v0) (by have:=(VH (D:=D) (i:=i) n).2 s0 hu;omega)
 have h0:=V0 n [] (Array.replicate l.toArray.size false) a0 w0 ⟨⟨by simp,(fun j oj _ hD=>by rw [getD_replicate_false] at hD;cases hD),fun t _ ht=>by simp only [List.size_toArray] at ht ⊢;simp [ht]⟩,⟨Nat.zero_le _,n1,fun q i hq=>by rw [getD_replicate_false];simp⟩,rfl,rfl,fun _ _=>rfl,(fun j V hD=>by rw [getD_replicate_false] at hD;cases hD)⟩ (Yh _ n)
 rwa [show n+(l.toArray.size - n)=l.toArray.size by omega] at h0
theorem askl_do{T:Value→World→Prop}{ds:List Deferred}{o:Oper}{a:Act}{w:World}(hw:Region.wanted o (yielded ops a.tmps)=true)
  (h: ∀K':Act→World→Prop,(∀a' w',a'.defers=ds→T (match o.dst with|some d=>a'.eval (.tmp d)|none=>undef) w'→K' a' w')→o.wp P a w K' (yQ T o.dst ds)):wpList P ops (yQ T o.dst ds) [o] a w:=by
 unfold wpList;rw [if_pos hw];exact .inl (h _ fun a' w' h1 h2=>⟨rfl,h1,h2⟩)
def Nx(P:Program)(ops:Array Oper)(Q:Exit→Act→World→Prop)(vs:List Value)(w:World):List (Qv L)→List Oper→Act→Prop
 |V::Vs,o::os,a=> ∀x,V.p vs x w→Nx P ops Q vs w Vs os (a.put o.dst x)
 |_,os,a=>wpList P ops Q os a w
theorem Nx.cut{vs:List Value}{w:World}: ∀{Vs:List (Qv L)} {os:List Oper} {a:Act},Vs.length≤os.length→Nx P ops Q vs w Vs os a→XD (fun a w=>wpList P ops Q (os.drop Vs.length) a w) vs w Vs (os.take Vs.length) a
 | [],os,a,_,h=>by
  have h:wpList P ops Q os a w:=by cases os<;>exact h
  exact h
 |V::Vs, [],a,hl,_=>by simp at hl
 |V::Vs,o::os,a,hl,h=>fun x hx=>Nx.cut (Vs:=Vs) (os:=os) (by simpa using hl) (h x hx)
theorem LateR.weak{F G:List (Qv L)→Prop}: ∀{k:Nat} {Rs:List (Qv L)} {os:List Oper},LateR L late P ops n a0 F k Rs os→(∀Ws,Ws.length=Rs.length+k→F Ws→G Ws)→LateR L late P ops n a0 G k Rs os
 |0,Rs,_,h,hg=>hg _ (by simp) h
 |_+1,_, [],h,_=>h.elim
 |k+1,Rs,o::os,⟨V,js,hb,hA,hM⟩,hg=>⟨V,js,hb,hA,LateR.weak hM fun Ws hW=>hg Ws (by simp at hW ⊢;omega)⟩
theorem Xp{l:List Oper}(n:Nat)(hB:Ys l.toArray n a0.tmps.size=true)(hBl:RS l.toArray n late=true)(hC0:L.C [] w0)
  (h:LateR L late P l.toArray n a0 (fun Vs=> ∀vs w,vs.length=late.length→L.C vs w→Nx P l.toArray Q vs w Vs l a0) n [] l):wpAny P .any l.toArray Q l.toArray.size (Array.replicate l.toArray.size false) a0 w0:=by
 refine Vu n hB hBl hC0 (LateR.weak h fun Ws hW hF vs w hvl hw=> ?_);have hn:=(LateR.out h).1;have hl:Ws.length=n:=by simpa using hW
 have:=Nx.cut (by rw [hl];exact hn) (hF vs w hvl hw)
 rwa [hl] at this
theorem wp_region_late{l:List Oper}{id:Nat}(L:Lt)(late:List Nat)(n:Nat)(hm:P.follows .mixedOrders=true)(hB:Ys l.toArray n a0.tmps.size=true)(hBl:RS l.toArray n late=true)(hC0:L.C [] w0.drew)
  (h:LateR L late P l.toArray n a0 (fun Vs=> ∀vs w,vs.length=late.length→L.C vs w→Nx P l.toArray Q vs w Vs l a0) n [] l):(Code.region id l.toArray true).wp P Q a0 w0:=
 wp_region_any hm (Xp n hB hBl hC0 h)
end
section
variable {L:Lt} {late:List Nat} {P:Program} {ops:Array Oper} {n:Nat} {a0:Act} {F:List (Qv L)→Prop} {k:Nat} {Rs:List (Qv L)} {o:Oper} {os:List Oper}
theorem lV(V:Qv L)(js:List (Nat×Tmp))(hA: ∀vs w,L.C vs w→VM P ops vs Rs.reverse (yQ (fun v w'=>V.p vs v w'∧w.grownBy w' none) o.dst a0.defers) o w js a0)(h:LateR L late P ops n a0 F k (V::Rs) os)(hc:(yw ops Rs.length js && yi ops n Rs.length js)=true:=by kernel_rfl)(hl:late.contains Rs.length=false:=by kernel_rfl)(hf:V.fr=0:=by rfl):LateR L late P ops n a0 F (k+1) Rs (o::os):=LateR.mono V js hc hl hf hA h
theorem lS(u:Value)(js:List (Nat×Tmp))(hA: ∀vs w,L.C vs w→VM P ops vs Rs.reverse (yQ (fun v w'=>(Qv.eq (L:=L) u).p vs v w'∧w.grownBy w' none) o.dst a0.defers) o w js a0)(h:LateR L late P ops n a0 F k (Qv.eq u::Rs) os)(hc:(yw ops Rs.length js && yi ops n Rs.length js)=true:=by kernel_rfl)(hl:late.contains Rs.length=false:=by kernel_rfl):LateR L late P ops n a0 F (k+1) Rs (o::os):=LateR.mono _ js hc hl rfl hA h
theorem lD{T:Value→World→Prop}{ds:List Deferred}{a:Act}{w:World}(h: ∀K:Act→World→Prop,(∀a' w',a'.defers=ds→T (match o.dst with|some d=>a'.eval (.tmp d)|none=>undef) w'→K a' w')→o.wp P a w K (yQ T o.dst ds))(hw:Region.wanted o (yielded ops a.tmps)=true:=by rfl):wpList P ops (yQ T o.dst ds) [o] a w:=askl_do hw h
theorem lE{T:Value→World→Prop}{ds:List Deferred}{a:Act}{w:World}(h: ∀K:Act→World→Prop,(∀a' w',a'.defers=ds→T (match o.dst with|some d=>a'.eval (.tmp d)|none=>undef) w'→K a' w')→o.wp P a w K (yQ T o.dst ds))(hw:Region.wanted o (yielded ops a.tmps)=true:=by kernel_rfl):wpList P ops (yQ T o.dst ds) [o] a w:=askl_do hw h
theorem lQ{u:Value}{vs:List Value}{ds:List Deferred}{a:Act}{w:World}(h: ∀K:Act→World→Prop,(∀a',a'.defers=ds→(match o.dst with|some d=>a'.eval (.tmp d)|none=>undef)=u→K a' w)→o.wp P a w K (yQ (fun v w'=>(Qv.eq (L:=L) u).p vs v w'∧w.grownBy w' none) o.dst ds))(hw:Region.wanted o (yielded ops a.tmps)=true:=by rfl):wpList P ops (yQ (fun v w'=>(Qv.eq (L:=L) u).p vs v w'∧w.grownBy w' none) o.dst ds) [o] a w:=askl_do hw fun K hK=>h K fun a' h1 h2=>hK a' w h1 ⟨h2,gRr w none⟩
theorem lR{u:Value}{vs:List Value}{ds:List Deferred}{a:Act}{w:World}(h: ∀K:Act→World→Prop,(∀a',a'.defers=ds→(match o.dst with|some d=>a'.eval (.tmp d)|none=>undef)=u→K a' w)→o.wp P a w K (yQ (fun v w'=>(Qv.eq (L:=L) u).p vs v w'∧w.grownBy w' none) o.dst ds))(hw:Region.wanted o (yielded ops a.tmps)=true:=by kernel_rfl):wpList P ops (yQ (fun v w'=>(Qv.eq (L:=L) u).p vs v w'∧w.grownBy w' none) o.dst ds) [o] a w:=askl_do hw fun K hK=>h K fun a' h1 h2=>hK a' w h1 ⟨h2,gRr w none⟩
end
end
section
open Go.RowKit
def Ho(w:World)(v:Value)(e:Ending)(w':World):Prop:=e= .returned v∧ ∃n,w'=w.drewN n
theorem ER(v1 v2:Value)(xs:List Int)(X Y:Nat→Prop)(w:World)(h1:Sl ze X w v1 xs)(h2:Sl ze Y w v2 xs):
  Calls prog 68 #[v1,v2] w (Ho w (.bool true)):=by
 have H1:=za h1;have H2:=za h2;obtain ⟨A1,c1,rfl,hc1,hc2⟩:=h1.form;obtain ⟨A2,c2,rfl,_,_⟩:=h2.form;clear h1 h2;have HST:Hid (∃n,w=w.drewN n):=za ⟨0,rfl⟩;go_enter func68,ntmps68;go_wp2_with fail;go_loopg [5] xs.length (fun g s5 wx=> ∃j:Nat,j+g=xs.length∧s5= .int .i64 j∧Hid (∃n,wx=w.drewN n))
 case atStart=>exact ⟨0,by omega,rfl,HST⟩
 case round=>
  obtain ⟨j,hj,rfl,HX⟩:=hrel;obtain ⟨n0,rfl⟩:=HX.z;cases gk with
  |zero=>
   obtain rfl:j=xs.length:=by omega
   clear HX HST;go_wp2;go_ret;exact ⟨rfl,_,rfl⟩
  |succ m=>
   have hjn:(j:Int)< (xs.length:Int):=by omega
   have hj0:(0:Int)≤(j:Int):=by omega
   have hjN:j< xs.length:=by omega
   obtain ⟨g1,o1,c1',e1,_,_,a1,u1⟩:=H1.z.atU hjN;injection e1 with e11 e12 e13
   subst e11 e13;obtain ⟨g2,o2,c2',e2,_,_,a2,_⟩:=H2.z.atU hjN;injection e2 with e21 e22 e23
   subst e21 e23;clear HX HST e12 e22;generalize xs[j]=y at *;go_wp2_with fail;go_quiet (fail);go_wp2_with fail;go_roundg m
   case measure=>omega
   case rel=>exact ⟨j+1,by omega,by go_num,za ⟨_,rfl⟩⟩
theorem Mh(v1 v2:Value)(xs:List (List Int))(X Y:Nat→Prop)(w:World)(h1:Sl (zh ze) X w v1 xs)(h2:Sl (zh ze) Y w v2 xs):
  Calls prog 33 #[v1,v2] w (Ho w (.bool true)):=by
 have H1:=za h1;have H2:=za h2;obtain ⟨A1,c1,rfl,hc1,hc2⟩:=h1.form;obtain ⟨A2,c2,rfl,_,_⟩:=h2.form;clear h1 h2;have HST:Hid (∃n,w=w.drewN n):=za ⟨0,rfl⟩;go_enter func33,ntmps33;go_wp2_with fail;go_loopg [5] xs.length (fun g s5 wx=> ∃j:Nat,j+g=xs.length∧s5= .int .i64 j∧Hid (∃n,wx=w.drewN n))
 case atStart=>exact ⟨0,by omega,rfl,HST⟩
 case round=>
  obtain ⟨j,hj,rfl,HX⟩:=hrel;obtain ⟨n0,rfl⟩:=HX.z;cases gk with
  |zero=>
   obtain rfl:j=xs.length:=by omega
   clear HX HST;go_wp2;go_ret;exact ⟨rfl,_,rfl⟩
  |succ m=>
   have hjn:(j:Int)< (xs.length:Int):=by omega
   have hj0:(0:Int)≤(j:Int):=by omega
   have hjN:j< xs.length:=by omega
   obtain ⟨g1,o1,c1',t1,e1,_,_,a1,k1⟩:=H1.z.atS hjN;injection e1 with e11 e12 e13
   subst e11 e13;obtain ⟨g2,o2,c2',t2,e2,_,_,a2,k2⟩:=H2.z.atS hjN;injection e2 with e21 e22 e23
   subst e21 e23;have HN:=za (fun k=>ER t1 t2 xs[j] X Y (w.drewN k) (k1.kept (zg (gRr w none) k)) (k2.kept (zg (gRr w none) k)));obtain ⟨B1,d1,rfl,_,_⟩:=k1.form;obtain ⟨B2,d2,rfl,_,_⟩:=k2.form;clear HX HST e12 e22 k1 k2;generalize xs[j].length=n1 at *;go_wp2_with fail;go_quiet ((go_at_call 68;exact Ji (HN.z _)));go_wp2_with fail;go_roundg m
   case measure=>omega
   case rel=>exact ⟨j+1,by omega,by go_num,za ⟨_,rfl⟩⟩
def xf:List Int:= [2,3,5,7,11,13,17,19,23,29,31,37]
def yd(w:World):Prop:=(∀j,j< Lib.deBruijn64tab.length→w.cell? ⟨1,j,none⟩=some (.int .u8 (Lib.deBruijn64tab.getD j 0)))∧(∀j,j< 12→w.cell? ⟨0,j,none⟩=some (.int .u64 (xf.getD j 0)))
theorem yd.drewN{w:World}(h:yd w)(n:Nat):yd (w.drewN n):=h
theorem Ky(x k idx:Nat)(w:World)(hx0:((x:Int)==0)=false)
  (key:IntKind.u64.wrap (bits BinOp.and IntKind.u64 (x:Int) (IntKind.u64.wrap (-(x:Int)))*285870213051353865) / 288230376151711744=(idx:Int))
  (hi:idx< 64) (hk:k< 64) (hcell:w.cell? ⟨1,idx,none⟩=some (.int .u8 k)):
  Calls prog 137 #[.int .u64 x] w fun e w'=>e= .returned (.int .i64 k)∧w'=w:=by
 go_enter func137,ntmps137;go_wp2_with (simp only [key]);go_ret;exact ⟨rfl,rfl⟩
theorem Gg(x a:Nat)(hx:x< 18446744073709551616)(hx0:x≠0)(hlow:x &&& (18446744073709551616 - x)=a):
  IntKind.u64.wrap (bits BinOp.and IntKind.u64 (x:Int) (IntKind.u64.wrap (-(x:Int)))*285870213051353865) / 288230376151711744=((a*285870213051353865%18446744073709551616 / 288230376151711744:Nat):Int):=by
 have e1:IntKind.u64.wrap (-(x:Int))=((18446744073709551616 - x:Nat):Int):=by rw [IntKind.wrap_u64];omega
 rw [e1,bits_and_u64_nat x _ hx (by omega),hlow,IntKind.wrap_u64];omega
theorem Gh(x:Int)(w:World)(h0:0< x)(h1:x< 18446744073709551616)(hT:yd w):
  Calls prog 137 #[.int .u64 x] w fun e w'=>e= .returned (.int .i64 (Lib.ctz 64 x.toNat))∧w'=w:=by
 obtain ⟨n,rfl⟩:=Int.eq_ofNat_of_zero_le (show 0≤x by omega);rw [Int.toNat_natCast];have hx0:n≠0:=by omega
 have hx:n< 18446744073709551616:=by omega
 obtain ⟨hlow,hk⟩:=Lib.lowest_bit 64 n hx0 hx;obtain ⟨hi,htab⟩:=Lib.deBruijn64_at _ hk;have hcell:=hT.1 _ hi;rw [htab] at hcell;exact Ky n _ _ w (by simp;omega) (Gg n _ hx hx0 hlow) hi hk hcell
def Hv(n:Int):Nat→Int→Bool
 |0,_=>false
 |k+1,x=>x==n - 1||Hv n k (zR x x n)
def DZ(n a:Int)(t:Nat):Bool:=Xr a ((n - 1) / 2 ^ t) n==1||Hv n t (Xr a ((n - 1) / 2 ^ t) n)
def goB(n:Int)(t:Nat):List Int→Bool
 | []=>true
 |a::l=>if n%a=0 then decide (n=a) else if DZ n a t then goB n t l else false
def Zr(n:Int):Bool:=if n< 2∨2305843009213693952< n then false else goB n (Lib.ctz 64 (n - 1).toNat) xf
theorem Jl(n:Int)(w:World)(h:n< 2∨2305843009213693952< n):
  Calls prog 81 #[.int .u64 n] w fun e w'=>e= .returned (.bool false)∧ ∃k,w'=w.drewN k:=by
 by_cases h2:n< 2
 ·clear h;have h2':decide (n< 2)=true:=by simpa using h2
  go_enter func81,ntmps81;go_wp2;go_step3;go_wp2
  (try rw [Exit.noGoto_ret])
  go_ret;exact ⟨rfl,0,rfl⟩
 ·have h2':decide (n< 2)=false:=by simpa using h2
  have h3:2305843009213693952< n:=h.resolve_left h2;have h3':decide (2305843009213693952< n)=true:=by simpa using h3
  clear h;go_enter func81,ntmps81;go_wp2;go_step3;go_wp2
  (try rw [Exit.noGoto_ret])
  go_ret;exact ⟨rfl,0,rfl⟩
theorem GQ(a e m:Int):U64 (Xr a e m):=by
 cases hm:zN m with
 |false=>simp [Xr,hm,U64]
 |true=>
  simp only [Xr,hm,if_true];simp [zN] at hm
  have:=yk (a ^ e.toNat) m hm.1
  unfold U64;omega
theorem Gp: ∀k:Nat,k< 12→ ∃p:Int,xf.drop k=p::xf.drop (k+1)∧2≤p∧p≤37∧
  ∀w,(Instr.index 206 (.agg #[.int .u64 2, .int .u64 3, .int .u64 5, .int .u64 7, .int .u64 11, .int .u64 13, .int .u64 17, .int .u64 19, .int .u64 23, .int .u64 29, .int .u64 31, .int .u64 37]) (.int .i64 k)).run prog w= .ok (.int .u64 p) w:=by
 intro k hk
 match k,hk with
 |0,_=>exact ⟨2,rfl,by decide,by decide,fun _=>by kernel_rfl⟩
 |1,_=>exact ⟨3,rfl,by decide,by decide,fun _=>by kernel_rfl⟩
 |2,_=>exact ⟨5,rfl,by decide,by decide,fun _=>by kernel_rfl⟩
 |3,_=>exact ⟨7,rfl,by decide,by decide,fun _=>by kernel_rfl⟩
 |4,_=>exact ⟨11,rfl,by decide,by decide,fun _=>by kernel_rfl⟩
 |5,_=>exact ⟨13,rfl,by decide,by decide,fun _=>by kernel_rfl⟩
 |6,_=>exact ⟨17,rfl,by decide,by decide,fun _=>by kernel_rfl⟩
 |7,_=>exact ⟨19,rfl,by decide,by decide,fun _=>by kernel_rfl⟩
 |8,_=>exact ⟨23,rfl,by decide,by decide,fun _=>by kernel_rfl⟩
 |9,_=>exact ⟨29,rfl,by decide,by decide,fun _=>by kernel_rfl⟩
 |10,_=>exact ⟨31,rfl,by decide,by decide,fun _=>by kernel_rfl⟩
 |11,_=>exact ⟨37,rfl,by decide,by decide,fun _=>by kernel_rfl⟩
theorem GO(n:Int)(w:World)(h2:2≤n)(h3:n≤2305843009213693952)(hT:yd w):
  Calls prog 81 #[.int .u64 n] w fun e w'=>e= .returned (.bool (goB n (Lib.ctz 64 (n - 1).toNat) xf))∧ ∃k,w'=w.drewN k:=by
 have u0:decide (n< 2)=false:=by simp;omega
 have t0:decide (2305843009213693952< n)=false:=by simp;omega
 have HT:=Lib.hid hT;obtain ⟨t,ht⟩: ∃t,t=Lib.ctz 64 (n - 1).toNat:=⟨_,rfl⟩;have l0:t< 64:=by rw [ht];exact (Lib.lowest_bit 64 (n - 1).toNat (by omega) (by omega)).2
 have HZ:=Lib.hid (Gh (n - 1) w (by omega) (by omega) hT);rw [←ht] at HZ ⊢;clear ht hT;go_enter func81,ntmps81;go_wp2;go_step3;go_wp2_with fail;refine HZ.out.mono ?_;rintro e w' ⟨rfl,hw'⟩;rw [hw'];clear hw';go_wp2_with fail;go_step3;have k0:w.cell? ⟨0,0,none⟩=some (.int .u64 2):=HT.out.2 0 (by decide);have k1:w.cell? ⟨0,1,none⟩=some (.int .u64 3):=HT.out.2 1 (by decide);have k2:w.cell? ⟨0,2,none⟩=some (.int .u64 5):=HT.out.2 2 (by decide);have k3:w.cell? ⟨0,3,none⟩=some (.int .u64 7):=HT.out.2 3 (by decide);have k4:w.cell? ⟨0,4,none⟩=some (.int .u64 11):=HT.out.2 4 (by decide);have k5:w.cell? ⟨0,5,none⟩=some (.int .u64 13):=HT.out.2 5 (by decide);have k6:w.cell? ⟨0,6,none⟩=some (.int .u64 17):=HT.out.2 6 (by decide);have k7:w.cell? ⟨0,7,none⟩=some (.int .u64 19):=HT.out.2 7 (by decide);have k8:w.cell? ⟨0,8,none⟩=some (.int .u64 23):=HT.out.2 8 (by decide);have k9:w.cell? ⟨0,9,none⟩=some (.int .u64 29):=HT.out.2 9 (by decide);have k10:w.cell? ⟨0,10,none⟩=some (.int .u64 31):=HT.out.2 10 (by decide);have k11:w.cell? ⟨0,11,none⟩=some (.int .u64 37):=HT.out.2 11 (by decide);go_wp2_with fail;clear k0 k1 k2 k3 k4 k5 k6 k7 k8 k9 k10 k11;go_loopg [17] 12 (fun g s17 wx=> ∃k:Nat,k+g=12∧s17= .int .i64 k∧Hid (goB n t (xf.drop k)=goB n t xf)∧ ∃q,wx=w.drewN q)
 case atStart=>exact ⟨0,rfl,rfl,Lib.hid rfl,0,rfl⟩
 case round=>
  obtain ⟨k,r0,rfl,HG,q,rfl⟩:=hrel;cases gk with
  |zero=>
   obtain rfl:k=12:=by omega
   have HE:Hid (true=goB n t xf):=Lib.hid HG.out;go_wp2
   (try rw [Exit.noGoto_ret])
   go_ret;exact ⟨congrArg Ending.returned (congrArg Value.bool HE.out),_,rfl⟩
  |succ g=>
   have hk:k< 12:=by omega
   obtain ⟨p,hd,q0,m0,i0⟩:=Gp k hk;have j0:Hid (goB n t (p::xf.drop (k+1))=goB n t xf):=Lib.hid (by rw [←hd];exact HG.out);clear HG hd;by_cases g0:n%p=0
   ·have HE:Hid ((n==p)=goB n t xf):=Lib.hid (by rw [←j0.out];simp only [goB,g0,if_true];rfl);go_wp2
    (try rw [Exit.noGoto_ret])
    go_ret;exact ⟨congrArg Ending.returned (congrArg Value.bool HE.out),_,rfl⟩
   ·have n0:(n%p==0)=false:=by simpa using g0
    have e0:0≤(n - 1) / 2 ^ t:=Int.ediv_nonneg (by omega) (Int.le_of_lt (Int.pow_pos (by decide)));have e1:(n - 1) / 2 ^ t≤n - 1:=Int.ediv_le_self _ (by omega);have HP:=Lib.hid (fun w=>Jn p ((n - 1) / 2 ^ t) n w ⟨by omega,by omega⟩ ⟨e0,by omega⟩);have b0:=j0.out;simp only [goB,g0,if_false] at b0;have HX:=GQ p ((n - 1) / 2 ^ t) n;unfold DZ at b0;generalize Xr p ((n - 1) / 2 ^ t) n=x0 at HP b0 HX;have HU:=Lib.hid HX;clear HX g0 j0;by_cases f0:x0=1
    ·have HN:Hid (goB n t (xf.drop (k+1))=goB n t xf):=Lib.hid (by rw [←b0];simp [f0]);clear b0;have a0:(x0==1)=true:=by simpa using f0
     clear f0;go_wp2_with fail;refine (HP.out _).mono ?_;rintro e w' ⟨rfl,n1,rfl⟩;go_wp2;go_roundg g
     case measure=>omega
     case rel=>exact ⟨k+1,by omega,by go_num,HN,_,rfl⟩
    ·have a0:(x0==1)=false:=by simpa using f0
     have HN:Hid ((if Hv n t x0 then goB n t (xf.drop (k+1)) else false)=goB n t xf):=Lib.hid (by rw [←b0];simp [a0]);clear b0 f0;go_wp2_with fail;refine (HP.out _).mono ?_;rintro e w' ⟨rfl,n1,rfl⟩;go_wp2_with fail;clear i0;go_loopg [6,37] t (fun h s6 s37 wx=> ∃(x:Int) (j:Nat),j+h=t∧s6= .int .u64 x∧Hid (U64 x)∧s37= .int .i64 j∧Hid (Hv n h x=Hv n t x0)∧ ∃q,wx=w.drewN q)
     case atStart=>exact ⟨x0,0,by omega,rfl,HU,rfl,Lib.hid rfl,_,rfl⟩
     case round=>
      obtain ⟨x,j,hj,rfl,hx,rfl,hW,q2,rfl⟩:=hrel;cases gk with
      |zero=>
       obtain rfl:j=t:=by omega
       have HE:Hid (false=goB n j xf):=Lib.hid (by
        have:=HN.out
        rw [←hW.out] at this;simpa [Hv] using this)
       go_wp2
       (try rw [Exit.noGoto_ret])
       go_ret;exact ⟨congrArg Ending.returned (congrArg Value.bool HE.out),_,rfl⟩
      |succ h=>
       have s0:(j:Int)< (t:Int):=by omega
       by_cases d0:x=n - 1
       ·have HE:Hid (goB n t (xf.drop (k+1))=goB n t xf):=Lib.hid (by
         have:=HN.out
         rw [←hW.out] at this;simpa [Hv,d0] using this)
        have c0:(x==n - 1)=true:=by simpa using d0
        clear d0 a0;go_wp2;go_roundg g
        case measure=>omega
        case rel=>exact ⟨k+1,by omega,by go_num,HE,_,rfl⟩
       ·have c0:(x==n - 1)=false:=by simpa using d0
        have p0:Hid (Hv n h (zR x x n)=Hv n t x0):=Lib.hid (by
         have:=hW.out
         simpa [Hv,c0] using this)
        have o0:=Lib.hid (yJ x x n);clear d0;go_wp2_with fail;refine (ZN x x n _ hx.out hx.out).mono ?_;rintro e w' ⟨rfl,n2,rfl⟩;go_wp2;go_roundg h
        case measure=>omega
        case rel=>exact ⟨zR x x n,j+1,by omega,rfl,o0,by go_num,p0,_,rfl⟩
theorem QT(n:Int)(w:World)(hT:yd w):
  Calls prog 81 #[.int .u64 n] w fun e w'=>e= .returned (.bool (Zr n))∧ ∃k,w'=w.drewN k:=by
 by_cases h:n< 2∨2305843009213693952< n
 ·rw [show Zr n=false by simp only [Zr,if_pos h]];exact Jl n w h
 ·rw [show Zr n=goB n (Lib.ctz 64 (n - 1).toNat) xf by simp only [Zr,if_neg h]];exact GO n w (by omega) (by omega) hT
end
section
open Go.ChangeShapes Go.WideShapes Go.RowKit
theorem IR:Tryz.prog.cellsOf 22=1:=by kernel_rfl
def Ub{α:Type}(E:Enc α)(t:TypeId)(G:α→Prop):Prop:=
 ∀{H:Type} {enc:TypeId×Value→H} {w:World} {base:Nat} {spare:Nat→Bool} {held:Bool} {fuel:Nat} {cs:List Value} {x:DataW H×List MemPlace},
  DataW.trod enc prog w base spare held fuel t cs=some x→(∀b∈x.1.weights prog t,b≤reachBytes)→ ∃a,E.rep (fun _=>True) w cs a∧G a
theorem Oj.z{α:Type}{E:Enc α}{t:TypeId}(h:Oj E t):Ub E t (fun _=>True):=fun ht _=>by
 obtain ⟨a,ha⟩:=h ht;exact ⟨a,ha,trivial⟩
def LG{α:Type}(G:α→Prop)(l:List α):Prop:=l.length≤17592186044415∧ ∀y∈l,G y
theorem Xj{H:Type}{P:Program}{e:TypeId}{b:Nat}: ∀{l:List (DataW H)} {d:DataW H},d∈l→b∈d.weights P e→b∈DataW.weightsAll P e l
 |x::l,d,hd,hb=>by
  rw [DataW.weightsAll];rcases List.mem_cons.1 hd with rfl|hd
  ·exact mAl _ hb
  ·exact mAr _ (Xj hd hb)
theorem QR{α:Type}{E:Enc α}{t e:TypeId}{G:α→Prop}(ht:Tryz.prog.underlying t=some (.slice e))(hE:Ub E e G)(hc:Tryz.prog.cellsOf e=E.size)(hb:8≤Tryz.prog.bytesOf e):Ub (zh E) t (LG G):=by
 intro H enc w base spare v0 fuel cs x h hz;rcases Go.Deep.open_slice ht h with ⟨rfl,_⟩|⟨a,len,cap,m,n,D,Pl,rfl,_,hl,hm,hmm,rfl,hi⟩
 ·exact ⟨[],⟨_,rfl,Sl.nil _ _ _⟩,Nat.zero_le _,fun y hy=>absurd hy (by simp)⟩
 ·have B0:len≤m:=by rw [hmm];split<;>omega
  have d0: ∀b∈DataW.weights prog t (DataW.slice ((List.range len).map D) ((List.range (m - len)).map fun j=>D (len+j))),b≤reachBytes:=hz;rw [DataW.weights,ht] at d0;have k0:(((List.range len).map D).length+((List.range (m - len)).map fun j=>D (len+j)).length)*Tryz.prog.bytesOf e≤reachBytes:=d0 _ mCs;have b0:len≤17592186044415:=by
   rw [lLm,lLm,List.length_range,List.length_range] at k0;have h1:len*8≤(len+(m - len))*Tryz.prog.bytesOf e:=Nat.mul_le_mul (by omega) hb;unfold reachBytes at k0;omega
  have p0: ∀i,i< len→ ∀b∈(D i).weights prog e,b≤reachBytes:=fun i hi b hb=>d0 b (mCm _ (mAl _ (Xj (List.mem_map.2 ⟨i,List.mem_range.2 hi,rfl⟩) hb)))
  have j0: ∀i,i< len→ ∃y,(∃cs',E.rep (fun _=>True) w cs' y∧ ∀j,j< E.size→w.cell? (a.add (i*E.size+j))=cs'[j]?)∧G y:=by
   intro i t0;obtain ⟨cs',c0,q0⟩:=hi i (by omega);obtain ⟨y,hy,hG⟩:=hE q0 (p0 i t0);obtain ⟨_,a0,o0⟩:=World.cells?_some c0;rw [hc] at o0;refine ⟨y,⟨cs',hy,fun j hj=> ?_⟩,hG⟩;rw [←o0 j hj,Go.Deep.add_add]
  have y0: ∃f:Fin len→α, ∀i:Fin len,(∃cs',E.rep (fun _=>True) w cs' (f i)∧ ∀j,j< E.size→w.cell? (a.add (i.1*E.size+j))=cs'[j]?)∧G (f i):=
   ⟨fun i=>Classical.choose (j0 i.1 i.2),fun i=>Classical.choose_spec (j0 i.1 i.2)⟩
  obtain ⟨f,n0⟩:=y0;have hf: ∀i:Fin len, ∃cs',E.rep (fun _=>True) w cs' (f i)∧ ∀j,j< E.size→w.cell? (a.add (i.1*E.size+j))=cs'[j]? :=fun i=>(n0 i).1
  have a0:(List.ofFn f).length=len:=List.length_ofFn;refine ⟨List.ofFn f,⟨_,rfl,some a,cap,by rw [a0],by omega,by unfold maxLen at hm;omega,fun hn=> ?_⟩,by rw [a0];exact b0,fun y hy=> ?_⟩
  ·have f0:0< len:=by rw [←a0];exact List.length_pos_iff.2 hn
   obtain ⟨cs0,s0,z0⟩:=hf ⟨0,f0⟩;have i0:=z0 0 E.pos;have m0:=E.len s0;rw [List.getElem?_eq_getElem (by rw [m0];exact E.pos)] at i0;obtain ⟨g,o,sp⟩:=a;have r0:sp=none:=by simpa [Addr.add] using World.cell?_spot i0
   subst r0;have g0:w.cell? ⟨g,o,none⟩=some (cs0[0]'(by rw [m0];exact E.pos)):=by simpa [Addr.add] using i0
   have u0:g< w.heap.size:=by
    rcases Nat.lt_or_ge g w.heap.size with hlt|hge
    ·exact hlt
    ·simp [World.cell?,Array.getElem?_eq_none hge] at g0
   refine ⟨g,o,rfl,u0,trivial,fun i C0=> ?_⟩;obtain ⟨cs',l0,A0⟩:=hf ⟨i,by omega⟩;refine ⟨cs',by simpa using l0,fun j u hu=> ?_⟩;have hj:j< E.size:=by
    rw [←E.len l0];exact (List.getElem?_eq_some_iff.1 hu).1
   rw [←hu, ←A0 j hj]
   have:(⟨g,o,none⟩:Addr).add (i*E.size+j)=⟨g,o+i*E.size+j,none⟩:=by
    unfold Addr.add;split
    ·rename_i h0
     have:i*E.size+j=0:=by simpa using h0
     rw [show o+i*E.size+j=o by omega]
    ·rw [Nat.add_assoc]
   rw [this]
  ·obtain ⟨i,rfl⟩:=List.mem_ofFn.1 hy;exact (n0 i).2
theorem Un{α:Type}{E:Enc α}{t:TypeId}{G:List α→Prop}(hR:Ub (zh E) t G){H:Type}{enc:TypeId×Value→H}{w:World}{base:Nat}{spare:Nat→Bool}{held:Bool}{a:Option Addr}{len cap:Nat}{d:DataW H}{p:List MemPlace}
  (h:DataW.Trod enc prog w base spare held t (.slice a len cap) d p) (hz: ∀b∈d.weights prog t,b≤reachBytes): ∃xs,Sl E (fun _=>True) w (.slice a len cap) xs∧G xs:=by
 obtain ⟨fuel,hf⟩:=h;obtain ⟨xs,⟨v,e,hs⟩,hg⟩:=hR hf hz;simp [Value.cells] at e;exact ⟨xs,by rw [e];exact hs,hg⟩
theorem yh{H:Type}{P:Program}{t:TypeId}{ts:List TypeId}{d:DataW H}{r:List (DataW H)}(h:(DataW.weightsEach P (t::ts) (d::r)).all (· ≤reachBytes)=true): ∀b∈d.weights P t,b≤reachBytes:=fun b hb=>by
 have h2:=(List.all_eq_true.1 h) b (by rw [DataW.weightsEach];exact mAl _ hb);simpa using h2
theorem yg{H:Type}{P:Program}{t:TypeId}{ts:List TypeId}{d:DataW H}{r:List (DataW H)}(h:(DataW.weightsEach P (t::ts) (d::r)).all (· ≤reachBytes)=true):(DataW.weightsEach P ts r).all (· ≤reachBytes)=true:=
 List.all_eq_true.2 fun b hb=>(List.all_eq_true.1 h) b (by rw [DataW.weightsEach];exact mAr _ hb)
theorem OH:Ub (zh ze) 31 (LG fun _=>True):=QR Tryz.underlying31 (Oj.z (Jg Tryz.underlying22)) IR (of_decide_eq_true (by kernel_rfl))
end
section
open Go.RowKit
def Zc(s:Int):Int:=IntKind.u64.wrap (s+11400714819323198485)
def Hw(z:Int):Int:=
 let a:=IntKind.u64.wrap (bits .xor .u64 z (z / 1073741824)*13787848793156543929)
 let b:=IntKind.u64.wrap (bits .xor .u64 a (a / 134217728)*10723151780598845931)
 bits .xor .u64 b (b / 2147483648)
def VZ(x q:Int):Int:=if q=0 then x else x%q
theorem LW(x q:Int)(hx:U64 x)(hq:U64 q):U64 (VZ x q):=by
 unfold VZ U64 at *;split
 ·exact hx
 ·have:=yk x q (by omega)
  omega
def YJ(q:Int):Int:=if q=0 then 0 else 18446744073709551616%q
theorem Ou(a:Int):IntKind.u64.wrap a=a%18446744073709551616:=IntKind.wrap_u64 a
theorem UP(s:Int):U64 (Zc s):=by
 unfold Zc;rw [Ou];exact yk _ _ (by decide)
theorem Dx(o:BinOp)(a b:Int):U64 (bits o .u64 a b):=by
 have h: ∃x,bits o .u64 a b=IntKind.u64.wrap x:=by
  unfold bits;exact ⟨_,rfl⟩
 obtain ⟨x,h⟩:=h;rw [h,Ou];exact yk _ _ (by decide)
theorem RL(z:Int):U64 (Hw z):=by
 unfold Hw;exact Dx _ _ _
theorem GW:Hw 0=0:=by kernel_rfl
def DF(q s:Int):Bool:=decide (YJ q≤bits BinOp.xor IntKind.u64 IntKind.u64.max (Hw s))
theorem zar(x:Int)(hx:U64 x):bits BinOp.xor IntKind.u64 IntKind.u64.max x=18446744073709551615 - x:=by
 obtain ⟨x0,x1⟩:=hx;obtain ⟨n,rfl⟩:=Int.eq_ofNat_of_zero_le x0;have h1:(BitVec.ofInt 64 (n:Int)).toNat=n:=by
  rw [BitVec.ofInt_natCast,BitVec.toNat_ofNat];exact Nat.mod_eq_of_lt (by omega)
 have h2:BitVec.ofInt 64 IntKind.u64.max=BitVec.allOnes 64:=by decide
 show IntKind.u64.wrap ((BitVec.ofInt 64 IntKind.u64.max ^^^ BitVec.ofInt 64 (n:Int)).toNat:Int)=_;rw [h2,BitVec.allOnes_xor,BitVec.toNat_not,h1,IntKind.wrap_u64];omega
theorem DE(q s:Int):DF q s=decide (YJ q≤18446744073709551615 - Hw s):=by
 unfold DF;rw [zar _ (RL _)]
theorem KJ(q:Int)(h:0≤q)(h1:q< 18446744073709551616):YJ q≤18446744073709551615:=by
 unfold YJ;split
 ·decide
 ·have:=yk 18446744073709551616 q (by omega)
  omega
theorem FH(q:Int)(h:U64 q):DF q 0=true:=by
 have:=KJ q h.1 h.2
 rw [DE,GW];simpa using this
theorem Fo(M a b c:Int)(h:M ∣ a)(e:a=b+M*c):M ∣ b:=by
 obtain ⟨k,hk⟩:=h;exact ⟨k - c,by rw [Int.mul_sub];omega⟩
theorem JW(M s v st k:Int)(hv:v*st=1+M*k)(h0:0< s)(h1:s< M):((M - s)*v)%M≠0:=by
 intro hz;have d:=Int.dvd_of_emod_eq_zero hz;have d2:M ∣ (M - s)*v*st:=Int.dvd_trans d (Int.dvd_mul_right _ _);have e:(M - s)*v*st=(M - s)+M*((M - s)*k):=by
  rw [Int.mul_assoc,hv,Int.mul_add,Int.mul_one, ←Int.mul_assoc,Int.mul_comm (M - s) M,Int.mul_assoc]
 have d3:=Fo _ _ _ _ d2 e
 have:=Int.le_of_dvd (by omega) d3
 omega
theorem Gy(M s n v st k a b:Int)(hM:1< M)(hv:v*st=1+M*k)(hn:n=(s+st)%M)(ha:a=((M - s)*v)%M)(hb:b=((M - n)*v)%M):b=(a - 1)%M:=by
 have e:Cg M b (a - 1):=by
  rw [hb,ha,hn];refine (Cg.mod _ _).trans ?_;refine Cg.trans ((((Cg.refl M M).sub (Cg.mod M (s+st))).mul_right v)) ?_;refine Cg.trans ?_ ((Cg.mod M ((M - s)*v)).symm.sub (Cg.refl M 1));refine Cg.of_dvd ⟨-k, ?_⟩;have h1:(M - (s+st))*v=(M - s)*v - v*st:=by
   rw [show M - (s+st)=(M - s) - st by omega,Int.sub_mul,Int.mul_comm st v]
  rw [h1,hv,Int.mul_neg];omega
 have hb0:0≤b∧b< M:=by rw [hb];exact yk _ _ (by omega)
 unfold Cg at e
 rwa [Int.emod_eq_of_lt hb0.1 hb0.2] at e
theorem Gb(M A B:Int)(hM:1< M)(hA:A=0)(hB:B=(A - 1)%M):M=B+1:=by
 subst hA
 have:(0 - 1:Int)%M=M - 1:=by
  rw [show (0 - 1:Int)=(M - 1)+M*(-1) by omega,Int.add_mul_emod_self_left,Int.emod_eq_of_lt (by omega) (by omega)]
 omega
theorem TD(B:Int)(h:0≤B)(x:Int)(hx:x=B+1):x.toNat=B.toNat+1:=by omega
theorem GP(M A B:Int)(hA0:0≤A)(hA1:A< M)(hA:A≠0)(hB:B=(A - 1)%M):A=B+1:=by
 rw [hB,Int.emod_eq_of_lt (by omega) (by omega)];omega
def kkG(M v s:Int):Nat:=if s=0 then M.toNat else (((M - s)*v)%M).toNat
theorem Fa(M v st k s n:Int)(hM:1< M)(hv:v*st=1+M*k)(s0:0≤s)(s1:s< M)(hn:n=(s+st)%M)(h:n≠0):kkG M v s=kkG M v n+1:=by
 have key:=Gy M s n v st k _ _ hM hv hn rfl rfl;have b1:=yk ((M - n)*v) M (by omega);unfold kkG;rw [if_neg h];by_cases hz:s=0
 ·subst hz;rw [if_pos rfl];exact TD _ b1.1 _ (Gb M _ _ hM (by rw [Int.sub_zero,Int.mul_comm];exact Int.mul_emod_left v M) key)
 ·rw [if_neg hz];have b2:=yk ((M - s)*v) M (by omega);exact TD _ b1.1 _ (GP M _ _ b2.1 b2.2 (JW M s v st k hv (by omega) s1) key)
theorem EZ(M v st k s:Int)(hM:1< M)(hv:v*st=1+M*k)(s0:0≤s)(s1:s< M): ∃f,kkG M v s=f+1:=by
 have h:kkG M v s≠0:=by
  unfold kkG;by_cases hz:s=0
  ·rw [if_pos hz];omega
  ·rw [if_neg hz];have b2:=yk ((M - s)*v) M (by omega)
   have:=JW M s v st k hv (by omega) s1
   omega
 exact ⟨kkG M v s - 1,by omega⟩
theorem Mj:(17428512612931826493:Int)*11400714819323198485=1+18446744073709551616*10771413168148108919:=by decide
def kk(s:Int):Nat:=kkG 18446744073709551616 17428512612931826493 s
theorem EY(s:Int)(hs:U64 s)(h:Zc s≠0):kk s=kk (Zc s)+1:=
 Fa _ _ _ _ _ _ (by decide) Mj hs.1 hs.2 (Ou _) h
theorem Ch(s:Int)(hs:U64 s): ∃f,kk s=f+1:=EZ _ _ _ _ _ (by decide) Mj hs.1 hs.2
def Ly(q:Int):Nat→Int→Int
 |0,s=>s
 |f+1,s=>if DF q (Zc s) then Zc s else Ly q f (Zc s)
def Ui(q s:Int):Int:=Ly q (kk s) s
def Iw(q s:Int):Int:=VZ (Hw (Ui q s)) q
theorem Fp(q s:Int)(hs:U64 s)(h:DF q (Zc s)=true):Ui q s=Zc s:=by
 obtain ⟨f,hf⟩:=Ch s hs;simp [Ui,hf,Ly,h]
theorem Dn(q s:Int)(hq:U64 q)(hs:U64 s)(h:DF q (Zc s)=false):Ui q s=Ui q (Zc s)∧kk s=kk (Zc s)+1:=by
 have hz:Zc s≠0:=by
  intro h0;rw [h0,FH q hq] at h;cases h
 have hk:=EY s hs hz;exact ⟨by simp [Ui,hk,Ly,h],hk⟩
theorem Pt(q:Int): ∀(f:Nat) (s:Int),U64 s→U64 (Ly q f s)
 |0,_,h=>h
 |f+1,s,_=>by
  unfold Ly;split
  ·exact UP s
  ·exact Pt q f _ (UP s)
theorem Ix(q s:Int)(h:U64 s):U64 (Ui q s):=Pt q _ s h
theorem PF(q s:Int)(hq:U64 q):U64 (Iw q s):=LW _ _ (RL _) hq
theorem Lg(b:Nat)(s:Int)(w:World)(hs:U64 s)(hc:w.cell? ⟨b,0,none⟩=some (.int .u64 s))(hf:w.frozen? ⟨b,0,none⟩=false):
  Calls prog 149 #[.pointer (some ⟨b,0,none⟩)] w fun e w'=>e= .returned (.int .u64 (Hw (Zc s)))∧ ∃n,w'=(w.setCell ⟨b,0,none⟩ (.int .u64 (Zc s))).drewN n:=by
 obtain ⟨s0,s1⟩:=hs;go_enter func149,ntmps149;go_wp2_with fail;go_ret;exact ⟨rfl,0,rfl⟩
theorem IT(x q:Int)(w:World)(hx:U64 x)(hq:U64 q):
  Calls prog 148 #[.int .u64 x, .int .u64 q] w fun e w'=>e= .returned (.int .u64 (VZ x q))∧ ∃n,w'=w.drewN n:=by
 obtain ⟨x0,x1⟩:=hx;obtain ⟨q0,q1⟩:=hq;by_cases h:q=0
 ·subst h;have hr:VZ x 0=x:=by simp [VZ]
  rw [hr];clear hr;go_enter func148,ntmps148;go_wp2;go_ret;exact ⟨rfl,0,rfl⟩
 ·have hr:VZ x q=x%q:=by simp [VZ,h]
  have h':(q==0)=false:=by simpa using h
  have hp:0< q:=by omega
  rw [hr];clear hr h;go_enter func148,ntmps148;go_wp2;go_ret;exact ⟨rfl,0,rfl⟩
theorem GG(q:Int)(_h:0< q):VQ (1%q) 0 q=18446744073709551616%q:=by
 unfold VQ;rw [Int.add_zero];exact ((Cg.mod q 1).mul_right _).trans (Cg.of_eq (Int.one_mul _))
theorem GS(q:Int)(w:World)(hq:U64 q):
  Calls prog 150 #[.int .u64 q] w fun e w'=>e= .returned (.int .u64 (YJ q))∧ ∃n,w'=w.drewN n:=by
 obtain ⟨q0,q1⟩:=hq;by_cases h:q=0
 ·subst h;have hr:YJ 0=0:=by simp [YJ]
  rw [hr];clear hr;go_enter func150,ntmps150;go_wp2;go_ret;exact ⟨rfl,0,rfl⟩
 ·have h':(q==0)=false:=by simpa using h
  have hp:0< q:=by omega
  have hr:YJ q=VQ (1%q) 0 q:=by rw [GG q hp];simp [YJ,h]
  rw [hr];obtain ⟨e0,e1⟩:=yk 1 q hp;clear hr h;go_enter func150,ntmps150;go_wp2_with fail;refine (PI _ _ _ _ e0 (by decide) (by decide) q1 e1).mono ?_;rintro e w' ⟨rfl,n,rfl⟩;go_wp2;go_ret;exact ⟨rfl,_,rfl⟩
theorem GV(b:Nat)(A:Option Addr)(c:Nat)(s d q:Int)(w:World)(hs:U64 s)(hq:U64 q)(hd0:0≤d)(hd:d< 4611686018427387904)
  (hb:Bk w b 174 #[.int .u64 s, .slice A 0 c, .int .i64 d]):
  Calls prog 98 #[.pointer (some ⟨b,0,none⟩), .int .u64 q] w fun e w'=>e= .returned (.int .u64 (Iw q s))∧Bk w' b 174 #[.int .u64 (Ui q s), .slice A 0 c, .int .i64 (d+1)]∧w.grownBy w' (some b):=by
 have c0:w.cell? ⟨b,0,none⟩=some (.int .u64 s):=hb.cell 0;have c1:w.cell? ⟨b,1,none⟩=some (.slice A 0 c):=hb.cell 1;have c2:w.cell? ⟨b,2,none⟩=some (.int .i64 d):=hb.cell 2;have f0:w.frozen? ⟨b,0,none⟩=false:=hb.free 0;have f2:w.frozen? ⟨b,2,none⟩=false:=hb.free 2;have HB:=Lib.hid hb;have HS:=Lib.hid hs;have HQ:=Lib.hid hq;clear hb hs hq;go_enter func98,ntmps98;go_wp2_with fail;have hb1:Bk (w.setCell ⟨b,2,none⟩ (.int .i64 (d+1))) b 174 #[.int .u64 s, .slice A 0 c, .int .i64 (d+1)]:=(HB.out.set 2 _).of_eq rfl;have hg1:w.grownBy (w.setCell ⟨b,2,none⟩ (.int .i64 (d+1))) (some b):=xm (World.grownBy.refl w _) 2 _;clear c0 c1 c2 f0 f2;generalize w.setCell ⟨b,2,none⟩ (.int .i64 (d+1))=w1 at *;go_loopg [6] (kk s) (fun g s6 wx=> ∃s':Int,kk s'=g∧Hid (U64 s')∧Hid (Ui q s'=Ui q s)∧Hid (Bk wx b 174 #[.int .u64 s', .slice A 0 c, .int .i64 (d+1)]∧w.grownBy wx (some b)))
 case atStart=>exact ⟨s,rfl,HS,Lib.hid rfl,Lib.hid ⟨hb1,hg1⟩⟩
 case round=>
  clear hb1 hg1;obtain ⟨s',hk,hs',HD,HX⟩:=hrel;have d0:wr.cell? ⟨b,0,none⟩=some (.int .u64 s'):=HX.out.1.cell 0;have g0:wr.frozen? ⟨b,0,none⟩=false:=HX.out.1.free 0;have HN:=Lib.hid (Lg b s' wr hs'.out d0 g0);have HL:=Lib.hid (fun w=>IT (Hw (Zc s')) q w (RL _) HQ.out);have HO:=Lib.hid (fun w=>GS q w HQ.out);have HX2:Hid (Bk (wr.setCell ⟨b,0,none⟩ (.int .u64 (Zc s'))) b 174 #[.int .u64 (Zc s'), .slice A 0 c, .int .i64 (d+1)]∧w.grownBy (wr.setCell ⟨b,0,none⟩ (.int .u64 (Zc s'))) (some b)):=Lib.hid ⟨(HX.out.1.set 0 _).of_eq rfl,xm HX.out.2 0 _⟩;have hkk:=Lib.hid hk;clear d0 g0 hk;go_wp2_with fail;refine HN.out.mono ?_;rintro e w' ⟨rfl,n1,rfl⟩;go_wp2_with fail;refine (HO.out _).mono ?_;rintro e w' ⟨rfl,n2,rfl⟩;cases hacc:DF q (Zc s') with
  |true=>
   have hA:decide (YJ q≤bits BinOp.xor IntKind.u64 IntKind.u64.max (Hw (Zc s')))=true:=hacc;have HE:=Lib.hid (Fp q s' hs'.out hacc);clear hacc;go_wp2_with fail;refine (HL.out _).mono ?_;rintro e w' ⟨rfl,n3,rfl⟩;go_wp2;go_ret;have e1:Ui q s=Zc s':=HD.out.symm.trans HE.out;refine ⟨?_, ?_, ?_⟩
   ·unfold Iw;rw [e1];rfl
   ·rw [e1];exact HX2.out.1
   ·exact zg HX2.out.2 _
  |false=>
   have hA:decide (YJ q≤bits BinOp.xor IntKind.u64 IntKind.u64.max (Hw (Zc s')))=false:=hacc;obtain ⟨e1,e2⟩:=Dn q s' HQ.out hs'.out hacc;have HE:=Lib.hid e1;have HK:=Lib.hid e2;clear hacc e1 e2;go_wp2;go_roundg (kk (Zc s'))
   case measure=>rw [←hkk.out,HK.out];omega
   case rel=>exact ⟨Zc s',rfl,Lib.hid (UP _),Lib.hid (HE.out.symm.trans HD.out),Lib.hid ⟨HX2.out.1,zg HX2.out.2 _⟩⟩
theorem Mn(w:World)(A:Option Addr)(n c:Nat):(binOp .eql 31 (.slice A n c) (.slice none 0 0)).run prog w= .ok (.bool A.isNone) w:=
 Lib.run_eql_slice_nil w _ 22 A n c 0 0 Tryz.underlying31
def Hu(w:World)(l:List Int)(e:Ending)(w':World):Prop:= ∃A c,e= .returned (.slice A l.length c)∧Rd w' A (nums l)∧l.length≤c∧c≤9223372036854775807∧(∀g o,A=some ⟨g,o,none⟩→w.heap.size≤g∧g< w'.heap.size)∧w.grownBy w' none
theorem IN{w w0 w1:World}{l:List Int}{v:Value}{n:Nat}{row:Option Nat}(hn:n=l.length)(hown:w1.ownsRow w.heap.size 22 1 v n (nums l))(hg0:w.grownBy w0 none)(hg:w0.grownBy w1 row)(hr: ∀g,row=some g→w.heap.size≤g):Hu w l (.returned v) w1:=by
 subst hn;have hG:=zz hg0 hg hr;rcases hown.2 with ⟨hv,h0⟩|⟨g,cap,cur,hv,hb,hh,hnc,hcm,_,_⟩
 ·subst hv;refine ⟨none,0,by rw [h0], ?_,by omega,by omega,by simp,hG⟩
  have:l= []:=List.eq_nil_of_length_eq_zero h0
  subst this;exact Rd.nil _ _
 ·subst hv;exact ⟨_,cap,rfl,Rd.own hown,hnc,hcm,fun g' o e=>by injection e with e;injection e with e1 e2 e3;subst e1;exact ⟨hb,Bk.lt hh⟩,hG⟩
theorem LR(x:Addr)(c:Nat)(l:List Int)(w:World)(hr:Rd w (some x) (nums l))(hn:l.length*8≤140737488351232):
  Calls prog 106 #[.slice (some x) l.length c] w (Hu w l):=by
 obtain ⟨i0,hi,hz0,hz1,hz2⟩:=info_parts NC;have heq:=fun w=>Mn w (some x) l.length c
 have hown:=World.ownsRow_made (base:=w.heap.size) (e:=22) (size:=1) w #[] 0 (Nat.le_refl _) (Nat.zero_le _) rfl;have hr1:Rd (w.alloc (.cells #[] 22)) (some x) (nums l):=hr.grown (World.grownBy_alloc w _ none) (by simp);have hc:=hr1.addr;go_enter func106,ntmps106;go_wp2_with (at_builtin;refine wpList_append_own _ rfl (.tmp 5) (.tmp 6) 31 rfl w.heap.size 22 i0 (.int .u64 0) 1 8 Tryz.underlying31 hi hz0 hz1 hz2 rfl (by decide) _ _ _ rfl hown x l.length c (nums l) rfl (by simp [nums]) hc (GU l) (by unfold maxLen;omega) (by omega) (by simp) ?_);intro v' w1 hown1 hgrow _;have HO:=Lib.hid hown1;have HG:=Lib.hid hgrow;clear hown1 hgrow hc hr1 hown;go_wp2;go_ret;exact IN (by simp) HO.out (World.grownBy_alloc w _ none) HG.out (by simp [Value.ownBlock])
theorem LS(c:Nat)(w:World):
  Calls prog 106 #[.slice none 0 c] w fun e w'=>e= .returned (.slice none 0 0)∧w'=w:=by
 have heq:=fun w=>Mn w none 0 c
 go_enter func106,ntmps106;go_wp2;go_ret;exact ⟨rfl,rfl⟩
def zam(w:World)(v:Value)(l:List Int):Prop:= ∃A c,v= .slice A l.length c∧Rd w A (nums l)∧l.length≤c∧c≤9223372036854775807
theorem zIOz(v:Value)(l:List Int)(w:World)(h:zam w v l)(hn:l.length*8≤140737488351232):
  Calls prog 106 #[v] w (Hu w l):=by
 obtain ⟨A,c,rfl,hr,_,_⟩:=h;cases A with
 |none=>
  have hl:l= []:=by
   cases l with
   |nil=>rfl
   |cons x l=>obtain ⟨g,o,e,_⟩:=hr (by simp [nums]);cases e
  subst hl;refine (LS c w).mono ?_;rintro e w' ⟨rfl,rfl⟩;exact ⟨none,0,rfl,Rd.nil _ _,Nat.le_refl _,by omega,by simp,World.grownBy.refl _ _⟩
 |some x=>exact LR x c l w hr hn
def xP(l:List Int)(n:Nat):Array Value:=(nums l++List.replicate (n - l.length) (Value.int .u64 0)).toArray
theorem LC(l:List Int)(n:Nat)(h:l.length≤n):(xP l n).size=n:=by simp [xP,nums];omega
theorem Pu(l:List Int)(n:Nat)(x:Int)(h:l.length< n):(xP l n).setIfInBounds l.length (.int .u64 x)=xP (l++ [x]) n:=by
 obtain ⟨k,hk⟩: ∃k,n - l.length=k+1:=⟨n - l.length - 1,by omega⟩;have hk':n - (l++ [x]).length=k:=by simp;omega
 unfold xP;rw [hk,hk',List.replicate_succ];simp only [List.setIfInBounds_toArray]
 congr 1
 rw [show l.length=(nums l).length by simp [nums]];rw [List.set_append_right _ _ (Nat.le_refl _)];simp [nums]
theorem LE(l:List Int):xP l l.length=(nums l).toArray:=by simp [xP]
theorem Mm(l:List Int)(n k:Nat)(h:k< n)(hl:l.length≤n): ∃v,(xP l n)[k]? =some v:=⟨_,Array.getElem?_eq_getElem (by rw [LC l n hl];exact h)⟩
theorem Lz(n:Nat):madeCells #[Value.int .u64 0] n=xP [] n:=by
 apply Array.ext';rw [toList_madeCells_one];simp [xP,nums]
theorem XT(w:World)(n:Nat)(h:n≤1048576):(Instr.makeSlice 31 (.int .i64 n) (.int .i64 n)).run prog w= .ok (.slice (some ⟨w.heap.size,0,none⟩) n n) (w.alloc (.cells (xP [] n) 22)):=by
 obtain ⟨i0,hi,hz0,hz1,hz2⟩:=info_parts NC
 have:=run_make (P:=prog) w 31 22 i0 (.int .u64 0) Tryz.underlying31 hi hz0 .i64 .i64 n n (by omega) (Int.le_refl _) (by rw [hz2];omega) (by omega)
 rw [Int.toNat_natCast,hz1,Nat.mul_one] at this;rw [this, ←Lz];rfl
end
section
open Go Go.RowKit
def pcs(l:List (Int×Int)):List Value:=l.flatMap fun x=> [.int .u64 x.1, .int .u64 x.2]
theorem XR(x:Int×Int)(l:List (Int×Int)):pcs (x::l)= .int .u64 x.1:: .int .u64 x.2::pcs l:=rfl
theorem Md: ∀(l:List (Int×Int)) (k:Nat) (h:k< l.length),(pcs l)[k*2]? =some (.int .u64 l[k].1)
 |x::l,0,_=>rfl
 |x::l,k+1,h=>by
  rw [XR,show (k+1)*2=k*2+1+1 by omega,List.getElem?_cons_succ,List.getElem?_cons_succ];exact Md l k (by simpa using h)
theorem Mc: ∀(l:List (Int×Int)) (k:Nat) (h:k< l.length),(pcs l)[k*2+1]? =some (.int .u64 l[k].2)
 |x::l,0,_=>rfl
 |x::l,k+1,h=>by
  rw [XR,show (k+1)*2+1=k*2+1+1+1 by omega,List.getElem?_cons_succ,List.getElem?_cons_succ];exact Mc l k (by simpa using h)
theorem Mb(a:Int): ∀(l:List (Int×Int)) (k:Nat) (h:k< l.length),(pcs l).set (k*2) (.int .u64 a)=pcs (l.set k (a,l[k].2))
 |x::l,0,_=>rfl
 |x::l,k+1,h=>by
  rw [XR,show (k+1)*2=k*2+1+1 by omega,List.set_cons_succ,List.set_cons_succ,Mb a l k (by simpa using h)];rfl
theorem Ma(a:Int): ∀(l:List (Int×Int)) (k:Nat) (h:k< l.length),(pcs l).set (k*2+1) (.int .u64 a)=pcs (l.set k (l[k].1,a))
 |x::l,0,_=>rfl
 |x::l,k+1,h=>by
  rw [XR,show (k+1)*2+1=k*2+1+1+1 by omega,List.set_cons_succ,List.set_cons_succ,Ma a l k (by simpa using h)];rfl
theorem Jq: ∀n:Nat,pcs (List.replicate n (0,0))=List.replicate (n*2) (.int .u64 0)
 |0=>rfl
 |n+1=>by
  rw [List.replicate_succ,XR,Jq n,show (n+1)*2=n*2+1+1 by omega,List.replicate_succ,List.replicate_succ]
theorem Lk(n:Nat):(madeCells #[.int .u64 0, .int .u64 0] (n*2)).toList=pcs (List.replicate n (0,0)):=by
 rw [Jq];refine List.ext_getElem (by simp [size_madeCells]) fun j h1 h2=> ?_
 have hj:j< n*2:=by simpa using h2
 simp only [madeCells,Array.toList_map,List.getElem_map,List.getElem_replicate];simp
 have:j%2=0∨j%2=1:=by omega
 rcases this with h|h<;>simp [h]
theorem zac{w:World}{g:Nat}{l:List (Int×Int)}(h:Bk w g 153 (pcs l).toArray)(hu: ∀x∈l,U64 x.1∧U64 x.2)(hb:l.length≤100000):Sl zo TT w (.slice (some ⟨g,0,none⟩) l.length l.length) l:=by
 refine Sl.block h trivial (l.map fun x=> [.int .u64 x.1, .int .u64 x.2]) (by simp) (fun i hi hi'=> ?_) ?_ (nRf _) (by omega)
 ·simp only [List.getElem_map];exact ⟨rfl,hu _ (lGm hi)⟩
 ·simp [pcs,List.flatMap]
theorem Ey{X:Nat→Prop}{w:World}{g:Nat}{l:List (Int×Int)}(h:Bk w g 153 (pcs l).toArray)(hX:X g)(hu: ∀x∈l,U64 x.1∧U64 x.2)(hb:l.length≤100000):Sl zo X w (.slice (some ⟨g,0,none⟩) l.length l.length) l:=by
 refine Sl.block h hX (l.map fun x=> [.int .u64 x.1, .int .u64 x.2]) (by simp) (fun i hi hi'=> ?_) ?_ (nRf _) (by omega)
 ·simp only [List.getElem_map];exact ⟨rfl,hu _ (lGm hi)⟩
 ·simp [pcs,List.flatMap]
theorem Lh(n:Nat)(hn:n≤100000): ∀w',(Instr.makeSlice 72 (.int .i64 (n:Int)) (.int .i64 (n:Int))).run prog w'= .ok (.slice (some ⟨w'.heap.size,0,none⟩) n n) (w'.alloc (.cells (madeCells #[.int .u64 0, .int .u64 0] (n*2)) 153)):=fun w'=>by
 obtain ⟨i,hi,hz⟩:=Option.map_eq_some_iff.1 Pk;simp only [Prod.mk.injEq] at hz;obtain ⟨hz1,hz2,hz3⟩:=hz;have hr:=run_make (P:=prog) w' 72 153 i _ Tryz.underlying72 hi hz1 .i64 .i64 (n:Int) (n:Int) (by omega) (Int.le_refl _) (by rw [hz3];omega) (by omega);rw [hz2,Int.toNat_natCast] at hr;exact hr
end
namespace FR
open Go
structure Lt where
 C:List (Nat×Value)→World→Prop
 R:Nat→Value→World→World→Prop
 G:World→World→Prop
 g: ∀{vs w w'},C vs w→G w w'→C vs w'
structure Qv (L:Lt) where
 p:List (Nat×Value)→Value→World→Prop
 st: ∀{vs v w w'},p vs v w→L.G w w'→p vs v w'
 sr: ∀{vs q u v w w'},L.C vs w→L.R q u w w'→p vs v w→p (vs++ [(q,u)]) v w'
def Qv.any{L:Lt}:Qv L:=⟨fun _ _ _=>True,fun _ _=>trivial,fun _ _ _=>trivial⟩
def Qv.eq{L:Lt}(u:Value):Qv L:=⟨fun _ v _=>v=u,fun h _=>h,fun _ _ h=>h⟩
def Qv.slot{L:Lt}(q:Nat):Qv L:=⟨fun vs v _=>(q,v)∈vs,fun h _=>h,fun _ _ h=>mAl _ h⟩
section
variable {L:Lt} {late:List Nat} {P:Program} {ops:Array Oper} {Q:Exit→Act→World→Prop} {n:Nat} {a0:Act} {w0:World}
def yQ(T:Value→World→Prop)(dst:Option Tmp)(ds:List Deferred):Exit→Act→World→Prop:=fun e a' w'=>e= .normal∧a'.defers=ds∧T (match dst with|some d=>a'.eval (.tmp d)|none=>undef) w'
def VM(P:Program)(ops:Array Oper)(vs:List (Nat×Value))(Vs:List (Qv L))(Qt:Exit→Act→World→Prop)(o:Oper)(w:World):List (Nat×Tmp)→Act→Prop
 | [],a=>wpList P ops Qt [o] a w
 |(j,d)::js,a=> ∀x,(Vs.getD j Qv.any).p vs x w→VM P ops vs Vs Qt o w js (a.put (some d) x)
def nqB(ops:Array Oper)(late:List Nat)(n i:Nat)(nq:List Nat):Bool:=nq.all fun q=>match late[q]? with|some k=> !av ops i n k|none=>false
def CP(L:Lt)(late:List Nat)(P:Program)(ops:Array Oper)(n:Nat)(Vs:List (Qv L))(ds:List Deferred)(i:Nat)(V:Qv L)(o:Oper)(js:List (Nat×Tmp))(a0:Act):Prop:=
 (late.contains i=false∧ ∃nq:List Nat,nqB ops late n i nq=true∧ ∀vs w,(∀x∈nq,x ∉ vs.map (·.1))→L.C vs w→VM P ops vs Vs (yQ (fun v w'=>V.p vs v w'∧L.G w w') o.dst ds) o w js a0)∨
 (∃(q:Nat) (rq nq:List Nat),late[q]? =some i∧(rq.all fun x=>match late[x]? with|some k=>Region.waitsFor .any ops i k|none=>false)=true∧nqB ops late n i nq=true∧V=Qv.slot q∧ ∀vs w,q ∉ vs.map (·.1)→(∀x∈rq,x∈vs.map (·.1))→(∀x∈nq,x ∉ vs.map (·.1))→L.C vs w→VM P ops vs Vs (yQ (fun v w'=>L.R q v w w'∧L.C (vs++ [(q,v)]) w') o.dst ds) o w js a0)
def LateR(L:Lt)(late:List Nat)(P:Program)(ops:Array Oper)(n:Nat)(a0:Act)(F:List (Qv L)→Prop):Nat→List (Qv L)→List Oper→Prop
 |0,Rs,_=>F Rs.reverse
 |_+1,_, []=>False
 |k+1,Rs,o::os=> ∃(V:Qv L) (js:List (Nat×Tmp)),(yw ops Rs.length js && yi ops n Rs.length js)=true∧CP L late P ops n Rs.reverse a0.defers Rs.length V o js a0∧LateR L late P ops n a0 F k (V::Rs) os
theorem LateR.mono{F:List (Qv L)→Prop}{k:Nat}{Rs:List (Qv L)}{o:Oper}{os:List Oper}(V:Qv L)(js:List (Nat×Tmp))(hc:(yw ops Rs.length js && yi ops n Rs.length js)=true)(hl:late.contains Rs.length=false)(hA: ∀vs w,L.C vs w→VM P ops vs Rs.reverse (yQ (fun v w'=>V.p vs v w'∧L.G w w') o.dst a0.defers) o w js a0)(h:LateR L late P ops n a0 F k (V::Rs) os):LateR L late P ops n a0 F (k+1) Rs (o::os):=⟨V,js,hc, .inl ⟨hl, [],rfl,fun vs w _ hC=>hA vs w hC⟩,h⟩
theorem LateR.monoN{F:List (Qv L)→Prop}{k:Nat}{Rs:List (Qv L)}{o:Oper}{os:List Oper}(V:Qv L)(js:List (Nat×Tmp))(nq:List Nat)(hc:(yw ops Rs.length js && yi ops n Rs.length js)=true)(hl:late.contains Rs.length=false)(hq:nqB ops late n Rs.length nq=true)(hA: ∀vs w,(∀x∈nq,x ∉ vs.map (·.1))→L.C vs w→VM P ops vs Rs.reverse (yQ (fun v w'=>V.p vs v w'∧L.G w w') o.dst a0.defers) o w js a0)(h:LateR L late P ops n a0 F k (V::Rs) os):LateR L late P ops n a0 F (k+1) Rs (o::os):=⟨V,js,hc, .inl ⟨hl,nq,hq,hA⟩,h⟩
theorem LateR.turn{F:List (Qv L)→Prop}{k:Nat}{Rs:List (Qv L)}{o:Oper}{os:List Oper}(q:Nat)(js:List (Nat×Tmp))(hc:(yw ops Rs.length js && yi ops n Rs.length js)=true)(rq:List Nat)(hl:late[q]? =some Rs.length)(hr:(rq.all fun x=>match late[x]? with|some k=>Region.waitsFor .any ops Rs.length k|none=>false)=true)(hA: ∀vs w,q ∉ vs.map (·.1)→(∀x∈rq,x∈vs.map (·.1))→L.C vs w→VM P ops vs Rs.reverse (yQ (fun v w'=>L.R q v w w'∧L.C (vs++ [(q,v)]) w') o.dst a0.defers) o w js a0)(h:LateR L late P ops n a0 F k (Qv.slot q::Rs) os):LateR L late P ops n a0 F (k+1) Rs (o::os):=⟨Qv.slot q,js,hc, .inr ⟨q,rq, [],hl,hr,rfl,rfl,fun vs w h1 h2 _ hC=>hA vs w h1 h2 hC⟩,h⟩
theorem LateR.turnN{F:List (Qv L)→Prop}{k:Nat}{Rs:List (Qv L)}{o:Oper}{os:List Oper}(q:Nat)(js:List (Nat×Tmp))(hc:(yw ops Rs.length js && yi ops n Rs.length js)=true)(rq nq:List Nat)(hl:late[q]? =some Rs.length)(hr:(rq.all fun x=>match late[x]? with|some k=>Region.waitsFor .any ops Rs.length k|none=>false)=true)(hq:nqB ops late n Rs.length nq=true)(hA: ∀vs w,q ∉ vs.map (·.1)→(∀x∈rq,x∈vs.map (·.1))→(∀x∈nq,x ∉ vs.map (·.1))→L.C vs w→VM P ops vs Rs.reverse (yQ (fun v w'=>L.R q v w w'∧L.C (vs++ [(q,v)]) w') o.dst a0.defers) o w js a0)(h:LateR L late P ops n a0 F k (Qv.slot q::Rs) os):LateR L late P ops n a0 F (k+1) Rs (o::os):=⟨Qv.slot q,js,hc, .inr ⟨q,rq,nq,hl,hr,hq,rfl,hA⟩,h⟩
theorem LateR.out{F:List (Qv L)→Prop}: ∀{k:Nat} {Rs:List (Qv L)} {os:List Oper},LateR L late P ops n a0 F k Rs os→k≤os.length∧ ∃Ws:List (Qv L),Ws.length=k∧F (Rs.reverse++Ws)∧ ∀m o,m< k→os[m]? =some o→ ∃V js,Ws[m]? =some V∧(yw ops (Rs.length+m) js && yi ops n (Rs.length+m) js)=true∧CP L late P ops n ((Rs.reverse++Ws).take (Rs.length+m)) a0.defers (Rs.length+m) V o js a0
 |0,Rs,os,h=>⟨Nat.zero_le _, [],rfl,by rw [List.append_nil];exact h,fun m o hm=>by omega⟩
 |_+1,_, [],h=>h.elim
 |k+1,Rs,o::os,⟨V,js,hb,hA,hM⟩=>by
  obtain ⟨hkl,Ws,hl,hF,hk⟩:=LateR.out hM;refine ⟨by simpa using hkl,V::Ws,by simp [hl],by simpa using hF,fun m o' hm ho=> ?_⟩;cases m with
  |zero=>
   obtain rfl:o=o':=by simpa using ho
   refine ⟨V,js,rfl,hb, ?_⟩
   have:(Rs.reverse++V::Ws).take (Rs.length+0)=Rs.reverse:=by
    rw [Nat.add_zero, ←List.length_reverse];exact List.take_left
   rw [this];exact hA
  |succ m=>
   obtain ⟨V',js',h1,h2,h3⟩:=hk m o' (by omega) (by simpa using ho);refine ⟨V',js',by simpa using h1, ?_, ?_⟩
   ·simpa [Nat.add_assoc,Nat.add_comm 1 m] using h2
   ·simpa [Nat.add_assoc,Nat.add_comm 1 m] using h3
def XD(G:Act→World→Prop)(vs:List (Nat×Value))(w:World):List (Qv L)→List Oper→Act→Prop
 |V::Vs,o::os,a=> ∀x,V.p vs x w→XD G vs w Vs os (a.put o.dst x)
 |_,_,a=>G a w
theorem XD.all{G:Act→World→Prop}{vs:List (Nat×Value)}{w:World}{b:Act}: ∀{Vs:List (Qv L)} {os:List Oper} {a:Act},Vs.length=os.length→(∀(k:Nat) (V:Qv L) (o:Oper),Vs[k]? =some V→os[k]? =some o→V.p vs (match o.dst with|some d=>b.eval (.tmp d)|none=>undef) w)→XD G vs w Vs os a→G (On b (os.map (·.dst)) a) w
 | [], [],_,_,_,h=>h
 |V::Vs,o::os,a,hl,hx,h=>XD.all (Vs:=Vs) (os:=os) (by simpa using hl) (fun k V o hv ho=>hx (k+1) V o (by simpa using hv) (by simpa using ho)) (h _ (hx 0 V o rfl rfl))
 | [],_::_,_,hl,_,_=>by simp at hl
 |_::_, [],_,hl,_,_=>by simp at hl
theorem VM.all{vs:List (Nat×Value)}{Vs:List (Qv L)}{Qt:Exit→Act→World→Prop}{o:Oper}{w:World}{b:Act}: ∀{js:List (Nat×Tmp)} {a:Act},(∀x:Nat×Tmp,x∈js→(Vs.getD x.1 Qv.any).p vs (b.eval (.tmp x.2)) w)→VM P ops vs Vs Qt o w js a→wpList P ops Qt [o] (On b (js.map fun x=>some x.2) a) w
 | [],_,_,h=>h
 |(j,d)::js,a,hx,h=>VM.all (js:=js) (fun x hm=>hx x (mCm _ hm)) (h _ (hx (j,d) (by simp)))
def Cls(L:Lt)(late:List Nat)(vs:List (Nat×Value))(D:Array Bool)(w:World):Prop:=((vs.map (·.1)).Nodup∧ ∀q∈vs.map (·.1),q< late.length)∧L.C vs w∧ ∀q i,late[q]? =some i→(D.getD i false=true↔q∈vs.map (·.1))
structure DH (L:Lt) (late:List Nat) (ops:Array Oper) (n:Nat) (a0:Act) (Vs:List (Qv L)) (vs:List (Nat×Value)) (D:Array Bool) (a:Act) (w:World):Prop where
 head:HeadInv .any ops n D
 cls:Cls L late vs D w
 tsize:a.tmps.size=a0.tmps.size
 defers:a.defers=a0.defers
 rest: ∀t,(∀j,j< n→D.getD j false=true→yf ops j≠some t)→a.tmps[t]? =a0.tmps[t]?
 known: ∀j V,D.getD j false=true→Vs[j]? =some V→V.p vs (Rr (yf ops j) a) w
theorem xy{T:Value→World→Prop}{dst:Option Tmp}{ds:List Deferred}: ¬LetsOut (yQ T dst ds):=by
 rintro ⟨a,w',e,_⟩;cases e
def RS(n:Nat)(late:List Nat):Bool:=late.all (fun i=>decide (i< n)) && decide late.Nodup
theorem Rt{T:Value→World→Prop}{o:Oper}{a b:Act}{w:World}(hs: ∀cs b,o.op≠ .select cs b)(hd: ∀d,o.dst=some d→d< a.tmps.size)(hsz:b.tmps.size=a.tmps.size)(hlook: ∀t∈o.looksAt ops,b.tmps[t]? =a.tmps[t]?){i:Nat}(hi:ops[i]? =some o)
  (hdf:b.defers=a0.defers) (h:wpList P ops (yQ T o.dst a0.defers) [o] b w):wpOp P ops Q i (fun a' w'=> ∃v,a'=a.put o.dst v∧T (match o.dst with|some _=>v|none=>undef) w') a w:=by
 have hex:execOp b.eval o=execOp a.eval o:=execOp_congr o hs fun x hx=>by
  cases x with
  |tmp t=>exact YR _ _ _ (hlook t (mAl _ (List.mem_filterMap.2 ⟨.tmp t,by simpa using hx,rfl⟩)))
  |_=>rfl
 have hwn:Region.wanted o (yielded ops b.tmps)=Region.wanted o (yielded ops a.tmps):=by
  unfold Region.wanted;cases hg:o.guard with
  |none=>rfl
  |some gw=>
   obtain ⟨g,want⟩:=gw;have hy:yielded ops b.tmps g=yielded ops a.tmps g:=by
    unfold yielded;cases ht:(ops[g]?).bind (·.dst) with
    |none=>rfl
    |some t=>simp only [Option.bind_some,hlook t (by simp [Oper.looksAt,hg,ht])]
   simp only [hy]
 have fin: ∀v w',yQ T o.dst a0.defers .normal (b.put o.dst v) w'→ ∃v',a.put o.dst v=a.put o.dst v'∧T (match o.dst with|some _=>v'|none=>undef) w':=by
  rintro v w' ⟨_,_,h1⟩;refine ⟨v,rfl, ?_⟩;cases hdd:o.dst with
  |none=>rw [hdd] at h1;exact h1
  |some d=>
   rw [hdd] at h1;have hlt:=hd d hdd
   have:(b.put (some d) v).eval (.tmp d)=v:=by simp [Act.put,Act.eval,Array.getD_eq_getD_getElem?,hsz,hlt]
   simp only [this] at h1;exact h1
 unfold wpOp;simp only [hi];simp only [wpList,hwn] at h;split
 ·rename_i hw;rw [if_pos hw] at h;rcases h with h|h
  ·left;unfold Oper.wp at h ⊢;rw [hex] at h;generalize (execOp a.eval o).run P w=r at *;cases r with
   |ok x w'=>
    cases x with
    |value v=>exact fin v w' h
    |skip=>exact fin undef w' h
    |enter f args=>
     refine Calls.mono h fun e w'' he=> ?_
     cases e with
     |returned u=>exact fin u w'' he
     |panicked c=>exact absurd he.1 (by simp)
     |outgrown=>exact absurd he xy
    |row row args=>exact Rows.mono h fun u w'' he=>fin u w'' he
    |defer d=>
     obtain ⟨_,h1,_⟩:=h;have h1:(Act.put {b with defers:=d::b.defers} o.dst undef).defers=a0.defers:=h1;rw [xd, ←hdf] at h1;exact absurd (congrArg List.length h1) (by simp)
    |_=>exact h.elim
   |halt x w'=>
    cases x with
    |panic v=>exact absurd h.1 (by simp)
    |_=>exact h.elim
  ·exact absurd h.2 xy
 ·rename_i hw;rw [if_neg hw] at h;exact fin undef w h
theorem UV{L:Lt}{late:List Nat}{vs vs2:List (Nat×Value)}{Vs:List (Qv L)}{D:Array Bool}{a a':Act}{w w':World}{i:Nat}{o:Oper}{V:Qv L}{v:Value}(inv:DH L late ops n a0 Vs vs D a w)(hd:IF ops n a0.tmps.size=true)(hi:i∈Region.ready .any ops D)(hin:i< n)(ho:ops[i]? =some o)(hV:Vs[i]? =some V)(hnl:Vs.length≤n)
  (ha:a'=a.put o.dst v) (hv:V.p vs2 (match o.dst with|some _=>v|none=>undef) w') (hg: ∀(W:Qv L) (j:Nat),D.getD j false=true→Vs[j]? =some W→ ∀{u:Value},W.p vs u w→W.p vs2 u w') (hcl:Cls L late vs2 (D.setIfInBounds i true) w'):DH L late ops n a0 Vs vs2 (D.setIfInBounds i true) a' w':=by
 subst ha;have hdi:yf ops i=o.dst:=by simp [yf,ho]
 have hun:D.getD i true=false:=(mem_ready.1 hi).1;have hlt:i< D.size:=by
  rcases Nat.lt_or_ge i D.size with h'|h'
  ·exact h'
  ·simp [Array.getElem?_eq_none h'] at hun
 refine ⟨inv.head.set hi hin,hcl,(YW _ _ _).trans inv.tsize,(xd _ _ _).trans inv.defers,fun t ht=> ?_,fun j W hj hW=> ?_⟩
 ·have h1:o.dst≠some t:=fun e=>ht i hin (by simp [hlt]) (hdi.trans e)
  refine Eq.trans ?_ (inv.rest t fun j hj hD=>ht j hj (getD_set_true hD));cases hdd:o.dst with
  |none=>rfl
  |some d=>exact XO _ _ _ _ (fun e=>h1 (by rw [hdd,e]))
 ·by_cases e:i=j
  ·subst e;obtain rfl:V=W:=Option.some.inj (hV.symm.trans hW);rw [hdi];cases hdd:o.dst with
   |none=>rw [hdd] at hv;exact hv
   |some d=>
    rw [hdd] at hv;have hds:=zf hd hin;rw [hdi,hdd] at hds;simp only [Bool.and_eq_true,decide_eq_true_eq] at hds
    have:(a.put (some d) v).eval (.tmp d)=v:=by simp [Act.put,Act.eval,Array.getD_eq_getD_getElem?,inv.tsize,hds.1]
    show V.p vs2 ((a.put (some d) v).eval (.tmp d)) w';rw [this];exact hv
  ·have hjn:j< n:=by have:=(List.getElem?_eq_some_iff.1 hW).1;omega
   rw [getD_set_ne false e] at hj;have h1:=hg W j hj hW (inv.known j W hj hW);cases hdj:yf ops j with
   |none=>rw [hdj] at h1;exact h1
   |some dj=>
    rw [hdj] at h1;have h1:W.p vs2 (a.eval (.tmp dj)) w':=h1;show W.p vs2 ((a.put o.dst v).eval (.tmp dj)) w';cases hdd:o.dst with
    |none=>exact h1
    |some d=>
     have hds:=zf hd hin;rw [hdi,hdd] at hds;simp only [Bool.and_eq_true,decide_eq_true_eq] at hds;have h2:=zf hds.2 hjn;simp only [Bool.or_eq_true,beq_iff_eq,bne_iff_ne,ne_eq] at h2;have h3:d≠dj:=fun e'=>(h2.resolve_left (fun e2=>e e2.symm)) (by rw [hdj,e'])
     rw [YR _ a dj (XO a d dj v h3)];exact h1
theorem Vu{l:List Oper}(n:Nat)(hB:Ys l.toArray n a0.tmps.size=true)(U0:RS n late=true)(l1:L.C [] w0)
  (h:LateR L late P l.toArray n a0 (fun Vs=> ∀vs w,(vs.map (·.1)).Nodup∧(∀q,q< late.length↔q∈vs.map (·.1))→L.C vs w→XD (fun a w=>wpList P l.toArray Q (l.drop n) a w) vs w Vs (l.take n) a0) n [] l):wpAny P .any l.toArray Q l.toArray.size (Array.replicate l.toArray.size false) a0 w0:=by
 simp only [Ys,Bool.and_eq_true,decide_eq_true_eq] at hB;obtain ⟨⟨⟨⟨z0,hn⟩,d0⟩,c0⟩,g0⟩:=hB;simp only [MP,Bool.and_eq_true] at d0;obtain ⟨H0,y0⟩:=d0;simp only [RS,Bool.and_eq_true,decide_eq_true_eq] at U0;obtain ⟨B0,a1⟩:=U0;have r0: ∀i∈late,i< n:=fun i hi=>by simpa using List.all_eq_true.1 B0 i hi
 obtain ⟨_,Vs,T0,hF,hO⟩:=LateR.out h;rw [List.reverse_nil,List.nil_append] at hF;simp only [List.reverse_nil,List.nil_append,List.length_nil,Nat.zero_add] at hO;have n1:n≤l.length:=by simpa using hn
 have e0:(l.take n).length=n:=by simp;omega
 have p1:Vs.length=n:=T0;have S0:(l.drop n).length=l.toArray.size - n:=by simp
 have N0: ∀i o,i< n→l.toArray[i]? =some o→(l.take n)[i]? =some o:=fun i o hi ho=>by
  rw [List.getElem?_take,if_pos hi];simpa using ho
 have V0: ∀m vs D a w,DH L late l.toArray n a0 Vs vs D a w→cnt D n=m→wpAny P .any l.toArray Q (m+(l.toArray.size - n)) D a w:=by
  intro m;induction m with
  |zero=>
   intro vs D a w inv hc;have b0:=xB hc;have hD:D=Array.replicate n true++Array.replicate (l.toArray.size - n) false:=by
    have x0:=inv.head.size;refine Array.ext (by simp [x0];omega) fun i h1 h2=> ?_
    rw [Array.getElem_append];by_cases hi:i< n
    ·have:=b0 i hi
     simp [h1] at this;simp [hi,this]
    ·have:=inv.head.tail i (by omega) (by omega)
     simp [h1] at this;simp [hi,this]
   have hk: ∀(k:Nat) (V:Qv L) (o:Oper),Vs[k]? =some V→(l.take n)[k]? =some o→V.p vs (match o.dst with|some d=>a.eval (.tmp d)|none=>undef) w:=by
    intro k V o hv ho;have O0:k< n:=by have:=(List.getElem?_eq_some_iff.1 hv).1;omega
    have h1:=inv.known k V (b0 k O0) hv;have h2:yf l.toArray k=o.dst:=by
     have:l[k]? =some o:=by rw [List.getElem?_take,if_pos O0] at ho;exact ho
     simp [yf,this]
    rw [h2] at h1;have h3:(match o.dst with|some d=>a.eval (.tmp d)|none=>undef)=Rr o.dst a:=by cases o.dst<;>rfl
    rw [h3];exact h1
   have v0:((vs.map (·.1)).Nodup∧(∀q,q< late.length↔q∈vs.map (·.1)))∧L.C vs w:=by
    obtain ⟨m0,l0,k0⟩:=inv.cls;exact ⟨⟨m0.1,fun q=>⟨fun h=>(k0 q late[q] (List.getElem?_eq_getElem h)).1 (b0 _ (r0 _ (lGm h))),m0.2 q⟩⟩,l0⟩
   have t0:=XD.all (T0.trans e0.symm) hk (hF vs w v0.1 v0.2);have f0:On a ((l.take n).map (·.dst)) a0=a:=by
    refine Tr (fun t=>Zu a t _ _ inv.tsize.symm ?_) ((yx _ _ _).trans inv.defers.symm);by_cases ht:some t∈(l.take n).map (·.dst)
    ·exact .inl ht
    ·refine .inr (inv.rest t fun j hj _ e=>ht ?_).symm;have Q0:j< l.length:=by omega
     have:l[j].dst=some t:=by simpa [yf,Q0] using e
     exact List.mem_map.2 ⟨l[j],List.mem_iff_getElem?.2 ⟨j,by rw [List.getElem?_take,if_pos hj,List.getElem?_eq_getElem Q0]⟩,this⟩
   rw [f0] at t0
   have:=wpAny_of_seq (md:= .any) (Q':=Q) (l.drop n) n D a w (fun j=>by simp [List.getElem?_drop]) (by rw [S0,hD];exact y0) t0
   rw [S0] at this
   rwa [Nat.zero_add]
  |succ m ih=>
   intro vs D a w inv hc;have i0: ∀i∈Region.ready .any l.toArray D,i< n:=by
    intro i hi;rcases Nat.lt_or_ge i n with h'|h'
    ·exact h'
    ·obtain ⟨hu,oi,L0,b0⟩:=mem_ready.1 hi;have C0:i< l.toArray.size:=(Array.getElem?_eq_some_iff.1 L0).1;exfalso;obtain ⟨k,hk,D0⟩: ∃k,k< n∧D.getD k false=false:=by
      refine Classical.byContradiction fun X0=> ?_
      have: ∀k,k≤n→cnt D k=0:=by
       intro k;induction k with
       |zero=>intro _;rfl
       |succ k ihk=>
        intro hk;have h1:D.getD k false=true:=by
         refine Classical.byContradiction fun hx=>X0 ⟨k,by omega,by simpa using hx⟩
        simp only [cnt,h1,ihk (by omega)];rfl
      rw [this n (nRf _)] at hc;omega
     have hb:=zf H0 C0;simp only [Bool.or_eq_true,decide_eq_true_eq] at hb;have hb:=zf (hb.resolve_left (by omega)) hk;simp only [Bool.not_eq_true'] at hb;have R0:i≠k:=by omega
     have:av l.toArray k n i=true:=by
      have i1:=fun f j hj=>PX (ops:=l.toArray) inv.head.closed inv.head.size D0 f j hj
      cases o1:n with
      |zero=>simp [av,R0]
      |succ f=>
       simp only [av,L0,Option.map_some,Option.getD_some,Bool.and_eq_true,bne_iff_ne];refine ⟨R0, ?_⟩;rw [Array.all_eq_true_iff_forall_mem];intro e he;by_cases J0:Region.binds .any e=true
       ·simp [J0,i1 f e.on (b0 e he J0)]
       ·simp [J0]
     rw [hb] at this;cases this
   have A0:Region.ready .any l.toArray D≠ []:=by
    have d1: ∃k,k< n∧D.getD k false=false∧ ∀j,j< k→D.getD j false=true:=by
     have: ∀k,k≤n→(∃q,q< k∧D.getD q false=false∧ ∀j,j< q→D.getD j false=true)∨(cnt D k=0):=by
      intro k;induction k with
      |zero=>intro _;exact .inr rfl
      |succ k ihk=>
       intro hk;rcases ihk (by omega) with ⟨q,h1,h2⟩|h0
       ·exact .inl ⟨q,by omega,h2⟩
       ·cases hq:D.getD k false with
        |true=>right;simp only [cnt,hq,h0];rfl
        |false=>exact .inl ⟨k,by omega,hq,xB h0⟩
     rcases this n (nRf _) with ⟨q,h1,h2⟩|h0
     ·exact ⟨q,h1,h2⟩
     ·omega
    obtain ⟨k,hk,D0,I0⟩:=d1;have P0:k< l.toArray.size:=by omega
    have ho:l.toArray[k]? =some l.toArray[k]:=Array.getElem?_eq_getElem P0
    have:k∈Region.ready .any l.toArray D:=by
     refine mem_ready.2 ⟨getD_in (by rw [inv.head.size];exact P0) D0,_,ho,fun e he hb=>I0 _ ?_⟩;have ht:=zf c0 hk;simp only [ho,Option.map_some,Option.getD_some] at ht
     have:=Array.all_eq_true_iff_forall_mem.1 ht e he
     simpa [hb] using this
    intro e;rw [e] at this;cases this
   rw [show m+1+(l.toArray.size - n)=(m+(l.toArray.size - n))+1 by omega];refine ⟨fun e=>absurd e A0,fun i hi=> ?_⟩;have s0:=i0 i hi;obtain ⟨hu,o,ho,b0⟩:=mem_ready.1 hi;obtain ⟨V,js,hV,u0,K0⟩:=hO i o s0 (by simpa using ho);simp only [Bool.and_eq_true] at u0;obtain ⟨o0,q0⟩:=u0;have G0: ∀d,o.dst=some d→d< a.tmps.size:=by
    intro d hd
    have:=zf g0 s0
    have h2:yf l.toArray i=some d:=by simp only [yf,ho];exact hd
    rw [h2] at this;simp only [Bool.and_eq_true,decide_eq_true_eq] at this;rw [inv.tsize];exact this.1
   have c1: ∀x:Nat×Tmp,x∈js→yf l.toArray x.1=some x.2∧D.getD x.1 false=true∧x.1< i:=by
    intro x hx
    have:=List.all_eq_true.1 o0 x hx
    simp only [Bool.and_eq_true,beq_iff_eq] at this;obtain ⟨oj,p0,e,he,hb,f0⟩:=Region.waitsFor_spec this.2;obtain rfl:o=oj:=Option.some.inj (ho.symm.trans p0);have ht:=zf c0 s0;simp only [ho,Option.map_some,Option.getD_some] at ht;have ht:=Array.all_eq_true_iff_forall_mem.1 ht e he;simp only [hb,Bool.not_true,Bool.false_or,decide_eq_true_eq] at ht;exact ⟨this.1,by rw [←f0];exact b0 e he hb,by rw [←f0];exact ht⟩
   have F0: ∀x:Nat×Tmp,x∈js→((Vs.take i).getD x.1 Qv.any).p vs (a.eval (.tmp x.2)) w:=fun x hx=>by
    obtain ⟨h1,h2,h3⟩:=c1 x hx;have Z0:x.1< Vs.length:=by omega
    have h4:Vs[x.1]? =some Vs[x.1]:=List.getElem?_eq_getElem Z0;have h5:=inv.known x.1 _ h2 h4;rw [h1] at h5
    have:(Vs.take i).getD x.1 Qv.any=Vs[x.1]:=by
     rw [List.getD_eq_getElem?_getD,List.getElem?_take,if_pos h3,h4];rfl
    rw [this];exact h5
   obtain ⟨m0,l0,k0⟩:=inv.cls;have b1: ∀t∈o.looksAt l.toArray,(On a (js.map fun x=>some x.2) a0).tmps[t]? =a.tmps[t]? :=fun t ht=>by
    refine Zu a t _ _ inv.tsize.symm ?_;have h1:(o.looksAt l.toArray).all (fun t=>js.any (·.2==t)||Lp l.toArray n i t)=true:=by
     simpa only [yi,ho,Option.map_some,Option.getD_some] using q0
    have h2:=List.all_eq_true.1 h1 t ht;simp only [Bool.or_eq_true] at h2;rcases h2 with h2|h2
    ·left;obtain ⟨x,hx,Y0⟩:=List.any_eq_true.1 h2;exact List.mem_map.2 ⟨x,hx,by rw [beq_iff_eq.1 Y0]⟩
    ·right;refine (inv.rest t fun j hj hD e=> ?_).symm;have h3:=zf h2 hj;simp only [Bool.or_eq_true,bne_iff_ne,ne_eq,beq_iff_eq] at h3;rcases h3 with (h3|h3)|h3
     ·exact h3 e
     ·obtain ⟨oj,p0,e',f1,g1,f0⟩:=Region.waitsFor_spec h3
      have:=inv.head.closed j oj p0 hD e' f1 g1
      rw [f0,getD_both hu] at this;cases this
     ·subst h3;rw [getD_both hu] at hD;cases hD
   obtain ⟨T,hA,hS⟩: ∃T:Value→World→Prop,VM P l.toArray vs (Vs.take i) (yQ T o.dst a0.defers) o w js a0∧(∀v w',T v w'→ ∃vs2,V.p vs2 v w'∧(∀(W:Qv L) (j:Nat),D.getD j false=true→Vs[j]? =some W→ ∀{u:Value},W.p vs u w→W.p vs2 u w')∧Cls L late vs2 (D.setIfInBounds i true) w'):=by
    have M0: ∀nq:List Nat,nqB l.toArray late n i nq=true→ ∀x∈nq,x ∉ vs.map (·.1):=fun nq hb x hx hm=>by
     have hw:=List.all_eq_true.1 hb x hx;cases j0:late[x]? with
     |none=>rw [j0] at hw;cases hw
     |some k=>
      rw [j0] at hw;have j1:=(k0 x k j0).2 hm
      have:=PX (ops:=l.toArray) inv.head.closed inv.head.size (getD_both hu) n k j1
      simp [this] at hw
    rcases K0 with ⟨hnl',nq,hnqb,hA⟩|⟨q,rq,nq,hq,hrq,hnqb,hVq,hA⟩
    ·have A0: ∀q i',late[q]? =some i'→i≠i':=fun q i' hq e=>by
      subst e
      have:=List.contains_iff_mem.2 (List.mem_of_getElem? hq)
      rw [hnl'] at this;cases this
     exact ⟨_,hA vs w (M0 nq hnqb) l0,fun v w' hg=>⟨vs,hg.1,fun W j _ _ _ hp=>W.st hp hg.2,m0,L.g l0 hg.2,fun q i' hq=>by rw [getD_set_ne false (A0 q i' hq)];exact k0 q i' hq⟩⟩
    ·have k1:D.getD i false=false:=getD_both hu;have h1:q ∉ vs.map (·.1):=fun h=>by have:=(k0 q i hq).2 h;rw [k1] at this;cases this
     have h2: ∀x∈rq,x∈vs.map (·.1):=fun x hx=>by
      have hw:=List.all_eq_true.1 hrq x hx;cases j0:late[x]? with
      |none=>rw [j0] at hw;cases hw
      |some k=>
       rw [j0] at hw;obtain ⟨oj,p0,e,he,hb,f0⟩:=Region.waitsFor_spec hw;obtain rfl:o=oj:=Option.some.inj (ho.symm.trans p0);have h3:=b0 e he hb;rw [f0] at h3;exact (k0 x k j0).1 h3
     refine ⟨_,hA vs w h1 h2 (M0 nq hnqb) l0,fun v w' hg=>⟨vs++ [(q,v)],(by rw [hVq];show (q,v)∈vs++ [(q,v)];simp),fun W j hj hW _ hp=>W.sr l0 hg.1 hp,⟨?_,fun x hx=> ?_⟩,hg.2,fun q' i' n0=> ?_⟩⟩
     ·rw [lMa,List.nodup_append];exact ⟨m0.1,by simp,fun a ha b hb e=>by
       have hb:b=q:=by simpa using hb
       exact h1 (by rw [←hb, ←e];exact ha)⟩
     ·rw [lMa,mAp] at hx;rcases hx with hx|hx
      ·exact m0.2 x hx
      ·have hx:x=q:=by simpa using hx
       rw [hx];exact (List.getElem?_eq_some_iff.1 hq).1
     ·rw [lMa,mAp];by_cases e:i=i'
      ·subst e;have E0:q'=q:=(List.getElem?_inj (List.getElem?_eq_some_iff.1 n0).1 a1).1 (n0.trans hq.symm);have C0:i< D.size:=by
        rw [inv.head.size];exact (Array.getElem?_eq_some_iff.1 ho).1
       simp [C0,E0]
      ·rw [getD_set_ne false e,k0 q' i' n0]
       have:q'≠q:=fun e'=>e (by rw [e',hq] at n0;exact Option.some.inj n0)
       simp [this]
   have hW:=VM.all (b:=a) F0 hA;have W0:=Rt (Q:=Q) (ops:=l.toArray) (a0:=a0) (a:=a) (Region.noSelect_spec z0 i o · · ho) G0 ((ZZ _ _ _).trans inv.tsize.symm) b1 ho (yx _ _ _) hW;refine wpOp_mono (fun a' w' hk=> ?_) W0;obtain ⟨v,ha,hT⟩:=hk;obtain ⟨vs2,hv,hs,v0⟩:=hS _ w' hT;exact ih vs2 _ a' w' (UV inv g0 hi s0 ho hV (by omega) ha hv hs v0) (by have:=(VH (D:=D) (i:=i) n).2 s0 hu;omega)
 have h0:=V0 n [] (Array.replicate l.toArray.size false) a0 w0 ⟨⟨by simp,(fun j oj _ hD=>by rw [getD_replicate_false] at hD;cases hD),fun t _ ht=>by simp only [List.size_toArray] at ht ⊢;simp [ht]⟩,⟨⟨by simp,by simp⟩,l1,fun q i hq=>by rw [getD_replicate_false];simp⟩,rfl,rfl,fun _ _=>rfl,(fun j V hD=>by rw [getD_replicate_false] at hD;cases hD)⟩ (Yh _ n)
 rwa [show n+(l.toArray.size - n)=l.toArray.size by omega] at h0
theorem askl_do{T:Value→World→Prop}{ds:List Deferred}{o:Oper}{a:Act}{w:World}(hw:Region.wanted o (yielded ops a.tmps)=true)
  (h: ∀K':Act→World→Prop,(∀a' w',a'.defers=ds→T (match o.dst with|some d=>a'.eval (.tmp d)|none=>undef) w'→K' a' w')→o.wp P a w K' (yQ T o.dst ds)):wpList P ops (yQ T o.dst ds) [o] a w:=by
 unfold wpList;rw [if_pos hw];exact .inl (h _ fun a' w' h1 h2=>⟨rfl,h1,h2⟩)
def Nx(P:Program)(ops:Array Oper)(Q:Exit→Act→World→Prop)(vs:List (Nat×Value))(w:World):List (Qv L)→List Oper→Act→Prop
 |V::Vs,o::os,a=> ∀x,V.p vs x w→Nx P ops Q vs w Vs os (a.put o.dst x)
 |_,os,a=>wpList P ops Q os a w
theorem Nx.cut{vs:List (Nat×Value)}{w:World}: ∀{Vs:List (Qv L)} {os:List Oper} {a:Act},Vs.length≤os.length→Nx P ops Q vs w Vs os a→XD (fun a w=>wpList P ops Q (os.drop Vs.length) a w) vs w Vs (os.take Vs.length) a
 | [],os,a,_,h=>by
  have h:wpList P ops Q os a w:=by cases os<;>exact h
  exact h
 |V::Vs, [],a,hl,_=>by simp at hl
 |V::Vs,o::os,a,hl,h=>fun x hx=>Nx.cut (Vs:=Vs) (os:=os) (by simpa using hl) (h x hx)
theorem LateR.weak{F G:List (Qv L)→Prop}: ∀{k:Nat} {Rs:List (Qv L)} {os:List Oper},LateR L late P ops n a0 F k Rs os→(∀Ws,Ws.length=Rs.length+k→F Ws→G Ws)→LateR L late P ops n a0 G k Rs os
 |0,Rs,_,h,hg=>hg _ (by simp) h
 |_+1,_, [],h,_=>h.elim
 |k+1,Rs,o::os,⟨V,js,hb,hA,hM⟩,hg=>⟨V,js,hb,hA,LateR.weak hM fun Ws hW=>hg Ws (by simp at hW ⊢;omega)⟩
theorem Xp{l:List Oper}(n:Nat)(hB:Ys l.toArray n a0.tmps.size=true)(hBl:RS n late=true)(hC0:L.C [] w0)
  (h:LateR L late P l.toArray n a0 (fun Vs=> ∀vs w,(vs.map (·.1)).Nodup∧(∀q,q< late.length↔q∈vs.map (·.1))→L.C vs w→Nx P l.toArray Q vs w Vs l a0) n [] l):wpAny P .any l.toArray Q l.toArray.size (Array.replicate l.toArray.size false) a0 w0:=by
 refine Vu n hB hBl hC0 (LateR.weak h fun Ws hW hF vs w hvl hw=> ?_);have hn:=(LateR.out h).1;have hl:Ws.length=n:=by simpa using hW
 have:=Nx.cut (by rw [hl];exact hn) (hF vs w hvl hw)
 rwa [hl] at this
theorem wp_region_late{l:List Oper}{id:Nat}(L:Lt)(late:List Nat)(n:Nat)(hm:P.follows .mixedOrders=true)(hB:Ys l.toArray n a0.tmps.size=true)(hBl:RS n late=true)(hC0:L.C [] w0.drew)
  (h:LateR L late P l.toArray n a0 (fun Vs=> ∀vs w,(vs.map (·.1)).Nodup∧(∀q,q< late.length↔q∈vs.map (·.1))→L.C vs w→Nx P l.toArray Q vs w Vs l a0) n [] l):(Code.region id l.toArray true).wp P Q a0 w0:=
 wp_region_any hm (Xp n hB hBl hC0 h)
end
section
variable {L:Lt} {late:List Nat} {P:Program} {ops:Array Oper} {n:Nat} {a0:Act} {F:List (Qv L)→Prop} {k:Nat} {Rs:List (Qv L)} {o:Oper} {os:List Oper}
theorem pQ{v:Value}{G:Value→Prop}(h:G v): ∀x,x=v→G x:=fun _ e=>e ▸ h
theorem mV(V:Qv L)(js:List (Nat×Tmp))(hA: ∀vs w,L.C vs w→VM P ops vs Rs.reverse (yQ (fun v w'=>V.p vs v w'∧L.G w w') o.dst a0.defers) o w js a0)(h:LateR L late P ops n a0 F k (V::Rs) os)(hc:(yw ops Rs.length js && yi ops n Rs.length js)=true:=by kernel_rfl)(hl:late.contains Rs.length=false:=by kernel_rfl):LateR L late P ops n a0 F (k+1) Rs (o::os):=LateR.mono V js hc hl hA h
theorem mS(u:Value)(js:List (Nat×Tmp))(hA: ∀vs w,L.C vs w→VM P ops vs Rs.reverse (yQ (fun v w'=>(Qv.eq (L:=L) u).p vs v w'∧L.G w w') o.dst a0.defers) o w js a0)(h:LateR L late P ops n a0 F k (Qv.eq u::Rs) os)(hc:(yw ops Rs.length js && yi ops n Rs.length js)=true:=by kernel_rfl)(hl:late.contains Rs.length=false:=by kernel_rfl):LateR L late P ops n a0 F (k+1) Rs (o::os):=LateR.mono _ js hc hl hA h
theorem kD{T:Value→World→Prop}{ds:List Deferred}{a:Act}{w:World}(h: ∀K:Act→World→Prop,(∀a' w',a'.defers=ds→T (match o.dst with|some d=>a'.eval (.tmp d)|none=>undef) w'→K a' w')→o.wp P a w K (yQ T o.dst ds))(hw:Region.wanted o (yielded ops a.tmps)=true:=by rfl):wpList P ops (yQ T o.dst ds) [o] a w:=askl_do hw h
theorem kE{T:Value→World→Prop}{ds:List Deferred}{a:Act}{w:World}(h: ∀K:Act→World→Prop,(∀a' w',a'.defers=ds→T (match o.dst with|some d=>a'.eval (.tmp d)|none=>undef) w'→K a' w')→o.wp P a w K (yQ T o.dst ds))(hw:Region.wanted o (yielded ops a.tmps)=true:=by kernel_rfl):wpList P ops (yQ T o.dst ds) [o] a w:=askl_do hw h
end
end FR
section
open Go Go.RowKit
theorem Co{vs:List (Nat×Value)}(h:(vs.map (·.1)).Nodup){q:Nat}{x y:Value}:(q,x)∈vs→(q,y)∈vs→x=y:=by
 induction vs with
 |nil=>intro hx;cases hx
 |cons a vs ih=>
  rw [List.map_cons,List.nodup_cons] at h;intro hx hy;rcases List.mem_cons.1 hx with e1|h1<;>rcases List.mem_cons.1 hy with e2|h2
  ·exact (Prod.ext_iff.1 (e1.trans e2.symm)).2
  ·exact absurd (List.mem_map.2 ⟨_,h2,by rw [←e1]⟩) h.1
  ·exact absurd (List.mem_map.2 ⟨_,h1,by rw [←e2]⟩) h.1
  ·exact ih h.2 h1 h2
theorem Lx{vs:List (Nat×Value)}{q:Nat}{x:Value}(h:(q,x)∈vs):q∈vs.map (·.1):=List.mem_map.2 ⟨_,h,rfl⟩
theorem zS{vs:List (Nat×Value)}{q r:Nat}{u:Value}:r∈(vs++ [(q,u)]).map (·.1)↔r∈vs.map (·.1)∨r=q:=by simp
theorem RV{vs:List (Nat×Value)}{q:Nat}{u:Value}(h:(vs.map (·.1)).Nodup)(hq:q ∉ vs.map (·.1)):((vs++ [(q,u)]).map (·.1)).Nodup:=by
 rw [lMa,List.nodup_append];exact ⟨h,by simp,fun a ha b hb e=>by
  have hb:b=q:=by simpa using hb
  exact hq (by rw [←hb, ←e];exact ha)⟩
structure Om (D:World) (row:Option Nat) (ty:TypeId) (zero:Array Value) (Pre:World→Prop) (yF:Value→Array Value→World→Prop):Prop where
 row: ∀r,row=some r→r< D.heap.size
 pre: ∀{W W'},Pre W→W.grownBy W' none→Pre W'
 told: ∀{x cs W W'},yF x cs W→W.grownBy W' none→yF x cs W'
 store: ∀{x cs W W' g},yF x cs W→Bk W g ty zero→D.heap.size≤g→W.grownBy W' (some g)→yF x cs W'
structure Vt (D:World) (row:Option Nat) (ty:TypeId) (zero:Array Value) (Pre:World→Prop) (yF:Value→Array Value→World→Prop) (vs:List (Nat×Value)) (W:World):Prop where
 g:D.grownBy W row
 pre:0 ∉ vs.map (·.1)→Pre W
 told: ∀x,(0,x)∈vs→ ∃cs,yF x cs W
 box: ∀x,(1,x)∈vs→ ∃g,x= .pointer (some ⟨g,0,none⟩)∧D.heap.size≤g∧(2 ∉ vs.map (·.1)→Bk W g ty zero)∧(2∈vs.map (·.1)→ ∃y cs,(0,y)∈vs∧yF y cs W∧Bk W g ty cs)
 two:2∈vs.map (·.1)→1∈vs.map (·.1)
 nd:(vs.map (·.1)).Nodup
section
variable {D:World} {row:Option Nat} {ty:TypeId} {zero:Array Value} {Pre:World→Prop} {yF:Value→Array Value→World→Prop} {vs:List (Nat×Value)} {W W':World}
theorem Vt.start(h:Pre D):Vt D row ty zero Pre yF [] D:=⟨gRr _ _,fun _=>h,by simp,by simp,by simp,by simp⟩
theorem Vt.keep(ok:Om D row ty zero Pre yF)(h:Vt D row ty zero Pre yF vs W)(hg:W.grownBy W' none):Vt D row ty zero Pre yF vs W' where
 g:=h.g.trans (hg.but _)
 pre:=fun hn=>ok.pre (h.pre hn) hg
 told:=fun x hx=>by
  obtain ⟨cs,hc⟩:=h.told x hx;exact ⟨cs,ok.told hc hg⟩
 box:=fun x hx=>by
  obtain ⟨g,e,hl,h1,h2⟩:=h.box x hx;refine ⟨g,e,hl,fun hn=>(h1 hn).grown hg (by simp),fun hy=> ?_⟩;obtain ⟨y,cs,a,b,c⟩:=h2 hy;exact ⟨y,cs,a,ok.told b hg,c.grown hg (by simp)⟩
 two:=h.two
 nd:=h.nd
theorem Vt.call(ok:Om D row ty zero Pre yF)(h:Vt D row ty zero Pre yF vs W)(hn:0 ∉ vs.map (·.1)){x:Value}{cs:Array Value}(ht:yF x cs W')(hg:W.grownBy W' row):Vt D row ty zero Pre yF (vs++ [(0,x)]) W' where
 g:=h.g.trans hg
 pre:=fun hm=>absurd (zS.2 (.inr rfl)) hm
 told:=fun y hy=>by
  rcases List.mem_append.1 hy with hy|hy
  ·exact absurd (Lx hy) hn
  ·simp only [List.mem_singleton,Prod.mk.injEq,true_and] at hy;subst hy;exact ⟨cs,ht⟩
 box:=fun y hy=>by
  rcases List.mem_append.1 hy with hy|hy
  ·obtain ⟨g,e,hl,h1,h2⟩:=h.box y hy;refine ⟨g,e,hl,fun hm=>(h1 fun hk=>hm (zS.2 (.inl hk))).grown hg (fun e=>by have:=ok.row g e.symm;omega),fun hm=> ?_⟩;rcases zS.1 hm with hm|hm
   ·obtain ⟨z,_,hz,_⟩:=h2 hm;exact absurd (Lx hz) hn
   ·cases hm
  ·simp at hy
 two:=fun hm=>by
  rcases zS.1 hm with hm|hm
  ·exact zS.2 (.inl (h.two hm))
  ·cases hm
 nd:=RV h.nd hn
theorem Vt.alloc(ok:Om D row ty zero Pre yF)(h:Vt D row ty zero Pre yF vs W)(hn:1 ∉ vs.map (·.1)):Vt D row ty zero Pre yF (vs++ [(1, .pointer (some ⟨W.heap.size,0,none⟩))]) (W.alloc (.cells zero ty)) where
 g:=h.g.trans ((gAl _ _ none).but _)
 pre:=fun hm=>ok.pre (h.pre fun hk=>hm (zS.2 (.inl hk))) (gAl _ _ none)
 told:=fun y hy=>by
  rcases List.mem_append.1 hy with hy|hy
  ·obtain ⟨cs,hc⟩:=h.told y hy;exact ⟨cs,ok.told hc (gAl _ _ none)⟩
  ·simp at hy
 box:=fun y hy=>by
  have h2:2 ∉ (vs++ [(1,Value.pointer (some ⟨W.heap.size,0,none⟩))]:List (Nat×Value)).map (·.1):=fun hm=>by
   rcases zS.1 hm with hm|hm
   ·exact hn (h.two hm)
   ·cases hm
  rcases List.mem_append.1 hy with hy|hy
  ·exact absurd (Lx hy) hn
  ·simp only [List.mem_singleton,Prod.mk.injEq,true_and] at hy;exact ⟨_,hy,h.g.size,fun _=>Bk.new _ _ _,fun hm=>absurd hm h2⟩
 two:=fun hm=>by
  rcases zS.1 hm with hm|hm
  ·exact zS.2 (.inl (h.two hm))
  ·cases hm
 nd:=RV h.nd hn
theorem Vt.stored(ok:Om D row ty zero Pre yF)(h:Vt D row ty zero Pre yF vs W)(hn:2 ∉ vs.map (·.1)){x u:Value}{cs:Array Value}{g:Nat}(hx:(0,x)∈vs)(ht:yF x cs W)(hp:(1, .pointer (some ⟨g,0,none⟩))∈vs)(hb:Bk W' g ty cs)(hg:W.grownBy W' (some g)):Vt D row ty zero Pre yF (vs++ [(2,u)]) W':=by
 obtain ⟨g',e,hl,h1,_⟩:=h.box _ hp;injection e with e
 injection e with e
 injection e with e _ _
 subst e;have hz:=h1 hn;refine ⟨h.g.andThen hg (fun j e=> .inl (by injection e with e;omega)),fun hm=>absurd (zS.2 (.inl (Lx hx))) hm,fun y hy=> ?_,fun y hy=> ?_,fun hm=>zS.2 (.inl (Lx hp)),RV h.nd hn⟩
 ·rcases List.mem_append.1 hy with hy|hy
  ·obtain ⟨cs',hc⟩:=h.told y hy;exact ⟨cs',ok.store hc hz hl hg⟩
  ·simp at hy
 ·rcases List.mem_append.1 hy with hy|hy
  ·have:=Co h.nd hy hp
   exact ⟨g,this,hl,fun hm=>absurd (zS.2 (.inr rfl)) hm,fun _=>⟨x,cs,mAl _ hx,ok.store ht hz hl hg,hb⟩⟩
  ·simp at hy
theorem Vt.fin(h:Vt D row ty zero Pre yF vs W)(hv: ∀q,q< 3↔q∈vs.map (·.1)){y:Value}(hy:(1,y)∈vs): ∃g x cs,y= .pointer (some ⟨g,0,none⟩)∧D.heap.size≤g∧(0,x)∈vs∧yF x cs W∧Bk W g ty cs∧D.grownBy W row:=by
 obtain ⟨g,e,hl,_,h2⟩:=h.box y hy;obtain ⟨x,cs,a,b,c⟩:=h2 ((hv 2).1 (by omega));exact ⟨g,x,cs,e,hl,a,b,c,h.g⟩
def FD(ok:Om D row ty zero Pre yF):FR.Lt where
 C:=Vt D row ty zero Pre yF
 R _ _ _ _:=True
 G W W':=W.grownBy W' none
 g:=fun h hg=>h.keep ok hg
def zaH{ok:Om D row ty zero Pre yF}:FR.Qv (FD ok):=FR.Qv.slot 0
def zaI{ok:Om D row ty zero Pre yF}(f:Value→Value→Prop):FR.Qv (FD ok) where
 p vs v _:= ∃x,(0,x)∈vs∧f v x
 st:=fun h _=>h
 sr:=fun _ _ ⟨x,h,hf⟩=>⟨x,mAl _ h,hf⟩
end
structure Ol (D:World) (row:Option Nat) (Pre:World→Prop) (yF:Value→World→Prop):Prop where
 row: ∀r,row=some r→r< D.heap.size
 pre: ∀{W W'},Pre W→W.grownBy W' none→Pre W'
 told: ∀{x W W'},yF x W→W.grownBy W' none→yF x W'
structure XE (D:World) (row:Option Nat) (Pre:World→Prop) (yF:Value→World→Prop) (vs:List (Nat×Value)) (W:World):Prop where
 g:D.grownBy W row
 pre:0 ∉ vs.map (·.1)→Pre W
 told: ∀x,(0,x)∈vs→yF x W
section
variable {D:World} {row:Option Nat} {Pre:World→Prop} {yF:Value→World→Prop} {vs:List (Nat×Value)} {W W':World}
theorem XE.start(h:Pre D):XE D row Pre yF [] D:=⟨gRr _ _,fun _=>h,by simp⟩
theorem XE.call(h:XE D row Pre yF vs W)(hn:0 ∉ vs.map (·.1)){x:Value}(ht:yF x W')(hg:W.grownBy W' row):XE D row Pre yF (vs++ [(0,x)]) W':=⟨h.g.trans hg,fun hm=>absurd (zS.2 (.inr rfl)) hm,fun y hy=>by
 rcases List.mem_append.1 hy with hy|hy
 ·exact absurd (Lx hy) hn
 ·simp only [List.mem_singleton,Prod.mk.injEq,true_and] at hy;exact hy ▸ ht⟩
def PV(ok:Ol D row Pre yF):FR.Lt where
 C:=XE D row Pre yF
 R _ _ W W':=W.grownBy W' row
 G W W':=W.grownBy W' none
 g:=fun h hg=>⟨h.g.trans (hg.but _),fun hn=>ok.pre (h.pre hn) hg,fun x hx=>ok.told (h.told x hx) hg⟩
def AH{ok:Ol D row Pre yF}:FR.Qv (PV ok):=FR.Qv.slot 0
def Fz{ok:Ol D row Pre yF}(f:Value→Value→Prop):FR.Qv (PV ok) where
 p vs v _:= ∃x,(0,x)∈vs∧f v x
 st:=fun h _=>h
 sr:=fun _ _ ⟨x,h,hf⟩=>⟨x,mAl _ h,hf⟩
def AI{ok:Ol D row Pre yF}{α:Type}(E:Enc α)(xs:List α):FR.Qv (PV ok) where
 p _ v W:=Sl E (fun k=>D.heap.size≤k) W v xs
 st:=fun h hg=>h.kept hg
 sr:=fun _ hR h=>h.keep hR (fun g hg e=>by have:=ok.row g e.symm;omega)
end
section
variable {t1 t2:TypeId} {z1 z2 c1 c2:Array Value} {D W W':World} {vs:List (Nat×Value)} {u:Value} {g:Nat}
theorem ym{q r:Nat}{v:Value}(h:(r,v)∈vs++ [(q,u)])(hne:r≠q):(r,v)∈vs:=by
 rcases List.mem_append.1 h with h|h
 ·exact h
 ·rw [mSg] at h;injection h with h1 _
  exact absurd h1 hne
theorem yN{q:Nat}{v:Value}(h:(q,v)∈vs++ [(q,u)])(hn:q ∉ vs.map (·.1)):v=u:=by
 rcases List.mem_append.1 h with h|h
 ·exact absurd (List.mem_map.2 ⟨_,h,rfl⟩) hn
 ·rw [mSg] at h;injection h
end
end
section
open Go
section
variable {P:Program} {Q:Exit→Act→World→Prop} {a0:Act} {w0:World}
end
end
section
open Go.RowKit
def zab:List Int:= [0,1,56,2,57,49,28,3,61,58,42,50,38,29,17,4,62,47,59,36,45,43,51,22,53,39,33,30,24,18,12,5,63,55,48,27,60,41,37,16,46,35,44,21,52,32,23,11,54,26,40,15,34,20,31,10,25,14,19,9,13,8,7,6]
theorem Bg: ∀j,j< 64→zab.getD j 0=((Lib.deBruijn64tab.getD j 0:Nat):Int):=by decide
theorem zaa(j:Nat)(hj:j< Lib.deBruijn64tab.length):zab.getD j 0=((Lib.deBruijn64tab.getD j 0:Nat):Int):=Bg j hj
def Up(cs:Array Value):Obj→Obj
 | .cells _ t f=> .cells cs t f
 |o=>o
end
end Go.Proofs.YtkdfjkdphdfclaaGreatDoor
