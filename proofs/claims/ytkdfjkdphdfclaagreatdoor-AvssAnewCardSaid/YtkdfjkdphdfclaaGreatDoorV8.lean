/- Part 8 of the proof of a card of AvssAnew. -/
import Derived.Test.YtkdfjkdphdfclaaGreatDoorV7
set_option maxRecDepth 100000
set_option maxHeartbeats 16000000
set_option linter.unusedVariables false
set_option linter.unusedSimpArgs false
namespace Go.Proofs.YtkdfjkdphdfclaaGreatDoor
open Tryz
section
open Go Go.RowKit
def Ce(t:Nat)(F:List (List Int)):Prop:= ∀r∈F,r.length=t∧ ∀y∈r,0≤y
def Rn(t:Nat)(a b:List Int):List (Int×Int):=(List.range t).map fun j=>(a[j]?.getD 0,b[j]?.getD 0)
theorem OB{t:Nat}{a b:List Int}(ha: ∀y∈a,0≤y)(hb: ∀y∈b,0≤y): ∀y∈Rn t a b,0≤y.1∧0≤y.2:=by
 have key: ∀(l:List Int),(∀y∈l,0≤y)→ ∀j:Nat,(0:Int)≤l[j]?.getD 0:=fun l hl j=>by
  rcases Nat.lt_or_ge j l.length with h|h
  ·rw [List.getElem?_eq_getElem h];exact hl _ (lGm h)
  ·rw [List.getElem?_eq_none h];exact Int.le_refl 0
 intro y hy;obtain ⟨j,_,rfl⟩:=List.mem_map.1 hy;exact ⟨key a ha j,key b hb j⟩
theorem Lq(p:Par){t:Nat}{a b:List Int}(ha:a.length=t)(hb:b.length=t):NV p (a,b)=(Rn t a b).map (zj p):=by
 simp [NV,Ua,Rn,ha,hb,Function.comp_def]
theorem UQ(p:Par){F R:List (List Int)}(h:F.length=R.length):yy p F R=(List.range F.length).map fun s=>NV p (F[s]?.getD [],R[s]?.getD []):=by
 simp [yy,Zs,h,Function.comp_def]
theorem JH{q:Int}(hq:zO q=true)(x:Int)(c:List Int):evZ x c%q=zH q c x:=by
 have h0:=VX hq;have hb:0≤zH q c x∧zH q c x< q:=by
  cases c with
  |nil=>exact ⟨Int.le_refl _,h0⟩
  |cons y c=>
   rw [Xb,yO _ _ _ hq];exact ⟨Int.emod_nonneg _ (by omega),Int.emod_lt_of_pos _ h0⟩
 have h:=(Pg hq x c).symm;unfold Cg at h;rw [h,Int.emod_eq_of_lt hb.1 hb.2]
theorem Iq{t:Nat}{F:List (List Int)}(h:Ce t F){s:Nat}(hs:s< F.length): ∃r,F[s]? =some r∧r.length=t∧ ∀y∈r,0≤y:=⟨F[s],List.getElem?_eq_getElem hs,h _ (lGm hs)⟩
theorem OT{p:Par}(hm:Zv p=true){t:Nat}(ht:(t:Int)=p.T+1){F R:List (List Int)}(hn:(F.length:Int)=zU p)(hl:F.length=R.length)(hF:Ce t F)(hR:Ce t R):xt p (yy p F R)=true:=by
 have hg:=Vi hm;obtain ⟨_,_,_,_,_,_,t1,t2,_,_,_,_⟩:=zx hm;have hw:IntKind.i64.wrap (p.T+1)=(t:Int):=by rw [←ht];exact i6n _ (by omega)
 unfold xt LR;rw [UQ p hl,hw, ←hn];simp only [List.length_map,List.length_range,decide_true,Bool.true_and,Bool.not_eq_true',List.any_eq_false];intro r hr;obtain ⟨s,hs,rfl⟩:=List.mem_map.1 hr;have hs1:=List.mem_range.1 hs;obtain ⟨a,ea,la,pa⟩:=Iq hF hs1;obtain ⟨b,eb,lb,pb⟩:=Iq hR (hl ▸ hs1);rw [ea,eb,Option.getD_some,Option.getD_some,Lq p la lb];simp only [yB,List.length_map,Bool.or_eq_true,decide_eq_true_eq,List.any_eq_true,not_or,not_exists,not_and];refine ⟨by simp [Rn],fun x hx=> ?_⟩;obtain ⟨y,hy,rfl⟩:=List.mem_map.1 hx;obtain ⟨y1,y2⟩:=OB pa pb y hy;simp [MV hg y y1 y2]
end
section
open Go
def cvI(a b:List Int)(n:Nat):Nat→Int
 |0=>0
 |i+1=>cvI a b n i+if i≤n then a[i]?.getD 0*b[n - i]?.getD 0 else 0
def Xs(q:Int)(a b:List Int):List Int:=if zO q=true∧a≠ []∧b≠ [] then (List.range (a.length+b.length - 1)).map fun n=>cvI a b n a.length%q else []
def VT(q:Int)(a b:List Int):List Int:=if zO q=true then (List.range (max a.length b.length)).map fun i=>xn (a[i]?.getD 0) (b[i]?.getD 0) q else []
def xg(q:Int)(a:List Int)(k:Int):List Int:=if zO q=true then a.map fun c=>zR c k q else []
def zX(q:Int)(c:List Int)(x:Int):List Int:=(List.range (c.length - 1)).map fun i=>zH q (c.drop (i+1)) x
def VZ(q:Int)(xs:List Int):List Int:=xs.foldl (fun all x=>Xs q all [YQ 0 x q,1]) [1%q]
noncomputable def Zu(q:Int)(xs ys:List Int)(n:Nat):List Int:=(List.range n).foldl (fun out i=>VT q out (xg q (zX q (VZ q xs) (xs[i]?.getD 0)) (zR (Qc (xO q xs 0 i) q) (ys[i]?.getD 0) q))) (List.replicate xs.length 0)
open Classical in
noncomputable def Mt(q:Int)(xs ys:List Int):Int:=if zO q=true∧xs.length=ys.length then FI q xs 0 else 1
noncomputable def Xn(q:Int)(xs ys:List Int):List Int:=if Mt q xs ys=0 then Zu q xs ys xs.length else []
theorem ZM(q:Int)(xs ys:List Int)(n:Nat):Zu q xs ys (n+1)=VT q (Zu q xs ys n) (xg q (zX q (VZ q xs) (xs[n]?.getD 0)) (zR (Qc (xO q xs 0 n) q) (ys[n]?.getD 0) q)):=by
 unfold Zu;rw [List.range_succ,List.foldl_append];rfl
theorem ID(q:Int)(xs:List Int)(n:Nat)(h:n< xs.length):VZ q (xs.take (n+1))=Xs q (VZ q (xs.take n)) [YQ 0 xs[n] q,1]:=by
 unfold VZ;rw [tSg h,List.foldl_append];rfl
section
variable {q:Int} (hq:zO q=true)
include hq
theorem Hk(b:List Int):VT q [] b=b.map fun y=>xn 0 y q:=by
 unfold VT;rw [if_pos hq];refine List.ext_getElem (by simp) fun i h1 h2=> ?_
 have h3:i< b.length:=by simpa using h2
 simp [h3]
theorem Kn(a:List Int):VT q a []=a.map fun y=>xn y 0 q:=by
 unfold VT;rw [if_pos hq];refine List.ext_getElem (by simp) fun i h1 h2=> ?_
 have h3:i< a.length:=by simpa using h2
 simp [h3]
theorem Ko(x y:Int)(a b:List Int):VT q (x::a) (y::b)=xn x y q::VT q a b:=by
 unfold VT;rw [if_pos hq,if_pos hq];have e:max (x::a).length (y::b).length=max a.length b.length+1:=by simp only [List.length_cons];omega
 rw [e,List.range_succ_eq_map,List.map_cons,List.map_map];simp [Function.comp_def]
theorem Uh(a b:List Int):(VT q a b).length=max a.length b.length:=by
 unfold VT;rw [if_pos hq];simp
theorem ZZ(a:List Int)(k:Int):(xg q a k).length=a.length:=by
 unfold xg;rw [if_pos hq];simp
theorem IE(a b:Int):Cg q (xn a b q) (a+b):=by
 rw [yO _ _ _ hq];exact Cg.mod q _
theorem Fq(a b:Int):Cg q (zR a b q) (a*b):=by
 rw [yG _ _ _ hq];exact Cg.mod q _
theorem VF(x:Int): ∀b:List Int,Cg q (evZ x (b.map fun y=>xn 0 y q)) (evZ x b)
 | []=>Cg.refl _ _
 |y::b=>by
  show Cg q (xn 0 y q+x*evZ x (b.map fun y=>xn 0 y q)) (y+x*evZ x b);exact Cg.add ((IE hq 0 y).trans (Cg.of_eq (by omega))) ((VF x b).mul_left x)
theorem XJ(x:Int): ∀b:List Int,Cg q (evZ x (b.map fun y=>xn y 0 q)) (evZ x b)
 | []=>Cg.refl _ _
 |y::b=>by
  show Cg q (xn y 0 q+x*evZ x (b.map fun y=>xn y 0 q)) (y+x*evZ x b);exact Cg.add ((IE hq y 0).trans (Cg.of_eq (by omega))) ((XJ x b).mul_left x)
theorem JJ(x:Int): ∀a b:List Int,Cg q (evZ x (VT q a b)) (evZ x a+evZ x b)
 | [],b=>by
  rw [Hk hq];exact (VF hq x b).trans (Cg.of_eq (by show _=0+_;omega))
 |y::a, []=>by
  rw [Kn hq];exact (XJ hq x _).trans (Cg.of_eq (by show _=_+0;omega))
 |y::a,z::b=>by
  rw [Ko hq];show Cg q (xn y z q+x*evZ x (VT q a b)) (y+x*evZ x a+(z+x*evZ x b));refine (Cg.add (IE hq y z) ((JJ x a b).mul_left x)).trans (Cg.of_eq ?_)
  grind
theorem Pi(x k:Int): ∀a:List Int,Cg q (evZ x (xg q a k)) (evZ x a*k)
 | []=>by
  unfold xg;rw [if_pos hq];exact Cg.of_eq (by show (0:Int)=0*k;omega)
 |y::a=>by
  have ih:=Pi x k a;unfold xg at ih ⊢;rw [if_pos hq] at ih ⊢;show Cg q (zR y k q+x*evZ x (a.map fun c=>zR c k q)) ((y+x*evZ x a)*k);refine (Cg.add (Fq hq y k) (ih.mul_left x)).trans (Cg.of_eq ?_)
  grind
end
end
section
open Go Go.RowKit Go.Shelf
theorem Oo{w:World}{g:Nat}{l:List Int}{n:Nat}(h:Bk w g 22 (xI l n))(hn:l.length=n)(hu: ∀x∈l,U64 x)(hb:n≤100000000){X:Nat→Prop}(hX:X g):Sl ze X w (.slice (some ⟨g,0,none⟩) n n) l:=by
 subst hn;rw [Li] at h;exact Sl.block h hX ((nums l).map fun v=> [v]) (by simp [nums]) (fun i hi hi'=>⟨by simp [nums],hu _ (lGm hi)⟩) (by rw [zZ]) (nRf _) (by omega)
theorem KC(xs:List Int)(k:Int){q:Int}(hm:zO q=true):xg q xs k=xs.map fun c=>zR c k q:=by unfold xg;rw [if_pos hm]
theorem Hq(xs:List Int)(k:Int){q:Int}(hm:zO q=false):xg q xs k= []:=by unfold xg;rw [if_neg (by simp [hm])]
theorem MA(xs:List Int)(k q:Int)(j:Nat)(h:j< xs.length):(xs.take (j+1)).map (fun c=>zR c k q)=(xs.take j).map (fun c=>zR c k q)++ [zR xs[j] k q]:=by
 rw [tSg h,lMa];rfl
theorem ME(v:Value)(xs:List Int)(k q:Int)(X:Nat→Prop)(w:World)(h:Sl ze X w v xs)(hk:U64 k)(hq:U64 q)(hl:xs.length≤1000000):
  Calls prog 235 #[v, .int .u64 k, .int .u64 q] w (zN ze (fun g=>w.heap.size≤g) w (xg q xs k)):=by
 have H:=za h;have HK:=za hk;have a0:=za (fun w=>Ya q w hq);obtain ⟨A,c,rfl,t0,s0⟩:=h.form;clear h hk hq;by_cases hm:zO q=true
 ·rw [hm] at a0;have j0:=fun w=>XA w xs.length (by omega)
  rw [KC xs k hm];have HL:=za hl;clear hm hl;go_enter func235,ntmps235;go_wp2_with (refine (a0.z _).mono ?_;rintro e w1 ⟨rfl,rfl⟩);clear a0;go_loopg [18] xs.length (fun g s18 wx=> ∃j:Nat,j+g=xs.length∧s18= .int .i64 j∧Hid (Bk wx w.heap.size 22 (xI ((xs.take j).map fun c=>zR c k q) xs.length)∧w.grownBy wx none))
  case atStart=>exact ⟨0,by omega,rfl,za ⟨Bk.new w _ _,gAl w _ _⟩⟩
  case round=>
   obtain ⟨j,hj,rfl,HX⟩:=hrel;cases gk with
   |zero=>
    obtain rfl:j=xs.length:=by omega
    have HR:Hid (Sl ze (fun g=>w.heap.size≤g) wr (.slice (some ⟨w.heap.size,0,none⟩) xs.length xs.length) (xs.map fun c=>zR c k q)∧w.grownBy wr none):=za ⟨Oo (by simpa using HX.z.1) (by simp) (fun x hx=>by
     obtain ⟨y,_,rfl⟩:=List.mem_map.1 hx;exact yw _ _ _) (by have:=HL.z;omega) (nRf _),HX.z.2⟩
    clear HX j0;go_wp2;go_ret;exact ⟨_,rfl,HR.z.1,HR.z.2⟩
   |succ m=>
    have n0:(j:Int)< (xs.length:Int):=by omega
    have f0:j< xs.length:=by omega
    have o0:(0:Int)≤(j:Int):=by omega
    obtain ⟨g,o,c',e,_,_,q0,k0⟩:=(H.out.kept HX.z.2).atU f0;injection e with e1 e2 e3
    subst e1 e3;have m0:=za (UA xs[j] k q wr k0 HK.z);have l0:=za (MA xs k q j f0);have g0:Hid (((xs.take j).map fun c=>zR c k q).length=j):=za (by simp;omega);have HB:=za HX.z.1;have HG:=za HX.z.2;clear e2 HX j0 k0;generalize xs[j]=x at *;generalize hL:(xs.take j).map (fun c=>zR c k q)=L at *;clear hL;go_wp2_with fail;refine m0.z.mono ?_;rintro e w1 ⟨rfl,hg1⟩;have c0:=HB.z.grown hg1 (by simp);obtain ⟨old,b0⟩:=NO L xs.length j f0 (by rw [g0.z];omega);have r0:w1.cell? ⟨w.heap.size,j,none⟩=some old:=(c0.cell j).trans b0;have p0:w1.frozen? ⟨w.heap.size,j,none⟩=false:=c0.free j;have i0:Hid (Bk (w1.setCell ⟨w.heap.size,j,none⟩ (.int .u64 (zR x k q))) w.heap.size 22 (xI ((xs.take (j+1)).map fun c=>zR c k q) xs.length)∧w.grownBy (w1.setCell ⟨w.heap.size,j,none⟩ (.int .u64 (zR x k q))) none):=za ⟨by
     have e:=Pf L xs.length (zR x k q) (by rw [g0.z];omega);rw [g0.z] at e;have hs:=c0.set j (.int .u64 (zR x k q));rw [e, ←l0.z] at hs;exact hs,Zg (HG.z.trans hg1) _ _ (nRf _)⟩
    clear hg1 c0 b0;go_wp2_with fail;go_roundg m
    case measure=>omega
    case rel=>exact ⟨j+1,by omega,by go_num,i0⟩
 ·have d0:zO q=false:=by simpa using hm
  rw [d0] at a0;rw [Hq xs k d0];clear hm d0 hl;go_enter func235,ntmps235;go_wp2_with (refine (a0.z _).mono ?_;rintro e w1 ⟨rfl,rfl⟩);go_ret;exact ⟨_,rfl,Sl.nil _ _ _,gRr _ _⟩
def Zt(q:Int)(c:List Int)(x:Int)(g:Nat):List Int:=(List.range (c.length - 1)).map fun i=>if i< g then 0 else zH q (c.drop (i+1)) x
theorem Vv(q:Int)(c:List Int)(x:Int)(g:Nat):(Zt q c x g).length=c.length - 1:=by simp [Zt]
theorem Mm(q:Int)(c:List Int)(x:Int):Zt q c x 0=zX q c x:=by simp [Zt,zX]
theorem LW(q:Int)(c:List Int)(x:Int):xI [] (c.length - 1)=(nums (Zt q c x (c.length - 1))).toArray:=by
 unfold xI
 congr 1
 refine List.ext_getElem (by simp [nums,Zt]) fun i h1 h2=> ?_
 have:i< c.length - 1:=by simpa [nums,Zt] using h2
 simp [nums,Zt,this]
theorem LV(q:Int)(c:List Int)(x:Int)(g:Nat):(nums (Zt q c x (g+1))).set g (.int .u64 (zH q (c.drop (g+1)) x))=nums (Zt q c x g):=by
 refine List.ext_getElem (by simp [nums,Zt]) fun i h1 h2=> ?_
 rw [List.getElem_set];by_cases e:g=i
 ·subst e;simp [nums,Zt]
 ·have h3:(i< g+1)=(i< g):=propext (by omega);simp [nums,Zt,e,h3]
theorem LX(q:Int)(c:List Int)(x:Int)(g:Nat): ∀y∈Zt q c x g,U64 y:=fun y hy=>by
 obtain ⟨i,_,rfl⟩:=List.mem_map.1 hy;split
 ·exact ⟨by decide,by decide⟩
 ·exact xR _ _ _
theorem On{w:World}{g:Nat}{l:List Int}{n:Nat}(h:Bk w g 22 (nums l).toArray)(hn:l.length=n)(hu: ∀x∈l,U64 x)(hb:n≤100000000){X:Nat→Prop}(hX:X g):Sl ze X w (.slice (some ⟨g,0,none⟩) n n) l:=by
 subst hn;exact Sl.block h hX ((nums l).map fun v=> [v]) (by simp [nums]) (fun i hi hi'=>⟨by simp [nums],hu _ (lGm hi)⟩) (by rw [zZ]) (nRf _) (by omega)
theorem JI(q:Int)(c:List Int)(x:Int)(i:Nat)(h:i< c.length):zH q (c.drop i) x=xn (zR (zH q (c.drop (i+1)) x) x q) c[i] q:=by
 rw [List.drop_eq_getElem_cons h,Xb]
theorem QC(v:Value)(c:List Int)(x q:Int)(X:Nat→Prop)(w:World)(h:Sl ze X w v c)(hx:U64 x)(hl:c.length≤1000000)(h0:c≠ []):
  Calls prog 236 #[v, .int .u64 x, .int .u64 q] w (zN ze (fun g=>w.heap.size≤g) w (zX q c x)):=by
 have H:=za h;have HX:=za hx;obtain ⟨A,cc,rfl,F0,D0⟩:=h.form;have f0:0< c.length:=List.length_pos_iff.2 h0;obtain ⟨n,hn⟩: ∃n,n+1=c.length:=⟨c.length - 1,by omega⟩;have HN:=za hn;have j0:=fun w=>XA w n (by omega)
 have e1:IntKind.i64.wrap ((c.length:Int) - 1)=(n:Int):=by rw [i6n _ (by omega)];omega
 have HA:Hid (Bk (w.alloc (.cells (xI [] n) 22)) w.heap.size 22 (nums (Zt q c x n)).toArray):=za (by
  have:=LW q c x
  rw [show c.length - 1=n by omega] at this;rw [←this];exact Bk.new w _ _)
 have i0:Hid ((0:Int)=zH q (c.drop (n+1)) x):=za (by rw [hn,List.drop_length];rfl);have y0:(n:Int)< 4611686018427387904:=by omega
 have m0:Hid ((Zt q c x 0).length=n∧n≤1000000):=za ⟨by rw [Vv];omega,by omega⟩;have t0:Hid (∀m,m< n→m+1< c.length):=za (fun m hm=>by omega);have p0:Hid (∀i g,i< n→(nums (Zt q c x g))[i]? =some (.int .u64 ((Zt q c x g)[i]?.getD 0))):=za (fun i g hi=>by
  have:i< (Zt q c x g).length:=by rw [Vv];omega
  simp [nums,this])
 clear h hx h0 hl f0;go_enter func236,ntmps236;go_wp2_with fail;go_loopg [8,9] n (fun g s8 s9 wx=>g≤n∧s9= .int .i64 g∧s8= .int .u64 (zH q (c.drop (g+1)) x)∧Hid (Bk wx w.heap.size 22 (nums (Zt q c x g)).toArray∧w.grownBy wx none))
 case atStart=>exact ⟨nRf _,rfl,by rw [←i0.z],za ⟨HA.z,gAl w _ _⟩⟩
 case round=>
  obtain ⟨hj,rfl,rfl,HR⟩:=hrel;rcases Nat.eq_zero_or_pos gk with h00|h00
  ·subst h00;have HF:Hid (Sl ze (fun g=>w.heap.size≤g) wr (.slice (some ⟨w.heap.size,0,none⟩) n n) (zX q c x)∧w.grownBy wr none):=za ⟨by
    have h1:=HR.z.1;have h2:=On (X:=fun g=>w.heap.size≤g) (n:=n) h1 m0.z.1 (LX _ _ _ _) (by have:=m0.z.2;omega) (nRf _)
    rwa [Mm] at h2,HR.z.2⟩
   clear HR HA i0 j0;go_wp2;go_ret;exact ⟨_,rfl,HF.z.1,HF.z.2⟩
  ·obtain ⟨m,hr⟩: ∃m,gk=m+1:=⟨gk - 1,by omega⟩;have a0:gk< c.length:=by rw [hr];exact t0.z m (by omega)
   obtain ⟨g,of,c',e,_,_,q0,hu⟩:=(H.out.kept HR.z.2).atU a0;injection e with e2 e3 e4
   subst e2 e4;have o0:Hid (w.grownBy wr.drew none):=za (zf HR.z.2 1);have HC:Hid (∀w',wr.drew.grownBy w' none→w'.cell? ⟨g,of+gk,none⟩=some (.int .u64 (c[gk]'a0))):=za (fun w' hw=>by
    obtain ⟨g2,of2,c2,e2,_,_,h3,_⟩:=(H.out.kept (o0.z.trans hw)).atU a0;injection e2 with e21 e22 e23
    injection e21 with e21
    injection e21 with e24 e25
    subst e24 e25;exact h3)
   have HY:=za hu;have HO:Hid (U64 (zH q (c.drop (gk+1)) x)):=za (xR _ _ _);have r0:Hid (xn (zR (zH q (c.drop (gk+1)) x) x q) (c[gk]'a0) q=zH q (c.drop gk) x):=za (JI q c x gk a0).symm;have n0:=za (LV q c x m);rw [←hr] at n0;have c0:=za hr;have v0:=za (p0.z m gk (by omega));have HB:=za HR.z.1;have I0:decide ((0:Int)< (gk:Int))=true:=by simp;omega
   have H0:(0:Int)≤(gk:Int):=by omega
   have G0:(gk:Int)< (c.length:Int):=by omega
   clear hr;clear q0 hu HR e3 HA i0 j0 p0;generalize hy:c[gk]=y at *;clear hy a0;generalize zH q (c.drop (gk+1)) x=o at *;generalize k0:zH q (c.drop gk) x=o2 at *;have s0:=za k0;generalize Zt q c x gk=L1 at *;generalize l0:Zt q c x m=L0 at *;have u0:=za l0;clear k0 l0;generalize c.length=len at *;go_wp2_with fail;refine ZF 11 ?_;refine mP0 (.int .u64 o) ?_;refine mP0 (.int .u64 x) ?_;refine mP0 (.int .u64 q) ?_;refine mN3 (Pv.eq (.int .u64 (zR o x q))) 0 21 1 22 2 23 (fun w' hw' K hK=> ?_) ?_
   ·go_simp;refine (UA o x q w' HO.z HX.z).mono ?_;rintro e w3 ⟨rfl,hg⟩;exact hK _ _ rfl rfl hg
   refine mP0 (.slice (some ⟨g,of,none⟩) len cc) ?_;refine mP0 (.int .i64 (gk:Int)) ?_;refine mP2 (.pointer (some ⟨g,of+gk,none⟩)) 4 25 5 26 ?_;refine mQ1 (.int .u64 y) 6 27 (fun w' hw' K hK=> ?_) ?_
   ·have hc:=HC.z w' hw';go_simp;exact hK _ rfl rfl
   refine mP0 (.int .u64 q) ?_;refine mN3 (Pv.eq (.int .u64 (xn (zR o x q) y q))) 3 24 7 28 8 29 (fun w' hw' K hK=> ?_) ?_
   ·go_simp;refine (Mj (zR o x q) y q w' (yw _ _ _) HY.z).mono ?_;rintro e w3 ⟨rfl,hg⟩;exact hK _ _ rfl rfl hg
   refine mP1 (.int .u64 (xn (zR o x q) y q)) 9 30 ?_;intro w3 d0
   iterate 10 (refine pD ?_;intro _)
   intro y10 k10;have e10:y10= .int .u64 (xn (zR o x q) y q):=k10;subst e10;refine wpList_nil ?_;simp only [Act.put,sAa,sAb,sAc];rw [r0.z];clear k10;have b0:=(HB.z.grown (zb wr 1) (by simp)).grown d0 (by simp);have C0:w3.cell? ⟨w.heap.size,m,none⟩=some (.int .u64 (L1[m]?.getD 0)):=by rw [b0.cell m,List.getElem?_toArray];exact v0.z
   have B0:w3.frozen? ⟨w.heap.size,m,none⟩=false:=b0.free m;have e5:IntKind.i64.wrap ((gk:Int) - 1)=(m:Int):=by have:=c0.z;rw [i6n _ (by omega)];omega
   have g0:Hid (Bk (w3.setCell ⟨w.heap.size,m,none⟩ (.int .u64 o2)) w.heap.size 22 (nums L0).toArray∧w.grownBy (w3.setCell ⟨w.heap.size,m,none⟩ (.int .u64 o2)) none):=za ⟨(b0.set m _).of_eq (by rw [←n0.z];simp),Zg (o0.z.trans d0) _ _ (nRf _)⟩;clear d0 b0;have z0:(m:Int)< (n:Int):=by have:=c0.z;omega
   have A0:(0:Int)≤(m:Int):=by omega
   go_wp2_with fail;go_roundg m
   case measure=>have:=c0.z;omega
   case rel=>
    have hr:=c0.z;obtain rfl:=s0.z;obtain rfl:=u0.z;exact ⟨by omega,by go_num,by rw [hr],g0⟩
def tUp(q:Int)(a b:List Int)(i k:Nat):List Int:=(List.range (a.length+b.length - 1)).map fun n=>(cvI a b n i+if i≤n∧n - i< k then a[i]?.getD 0*b[n - i]?.getD 0 else 0)%q
theorem Vc(q:Int)(a b:List Int)(i k:Nat):(tUp q a b i k).length=a.length+b.length - 1:=by simp [tUp]
theorem Hj(q:Int)(a b:List Int):xI [] (a.length+b.length - 1)=(nums (tUp q a b 0 0)).toArray:=by
 unfold xI
 congr 1
 refine List.ext_getElem (by simp [nums,tUp]) fun i h1 h2=> ?_
 simp [nums,tUp,cvI]
theorem FO(q:Int)(a b:List Int)(i:Nat):tUp q a b i b.length=tUp q a b (i+1) 0:=by
 unfold tUp;refine List.map_congr_left fun n _=> ?_
 have e:(if i+1≤n∧n - (i+1)< 0 then a[i+1]?.getD 0*b[n - (i+1)]?.getD 0 else 0)=0:=if_neg (by omega);rw [e,Int.add_zero,cvI]
 congr 2
 by_cases h1:i≤n
 ·by_cases h2:n - i< b.length
  ·rw [if_pos ⟨h1,h2⟩,if_pos h1]
  ·have h3:b.length≤n - i:=by omega
   rw [if_neg (by omega),if_pos h1,List.getElem?_eq_none h3];simp
 ·rw [if_neg (by omega),if_neg h1]
theorem FN(q:Int)(a b:List Int)(i k:Nat)(hq:zO q=true)(hi:i< a.length)(hk:k< b.length):
  (nums (tUp q a b i k)).set (i+k) (.int .u64 (xn ((tUp q a b i k)[i+k]?.getD 0) (zR a[i] b[k] q) q))=nums (tUp q a b i (k+1)):=by
 refine List.ext_getElem (by simp [nums,tUp]) fun n h1 h2=> ?_
 rw [List.getElem_set];have hn:n< a.length+b.length - 1:=by simpa [nums,tUp] using h2
 by_cases e:i+k=n
 ·subst e;rw [if_pos rfl];have e1:(tUp q a b i k)[i+k]?.getD 0=cvI a b (i+k) i%q:=by simp [tUp,hn]
  have e2:(nums (tUp q a b i (k+1)))[i+k]= .int .u64 ((cvI a b (i+k) i+a[i]*b[k])%q):=by simp [nums,tUp,hi,hk]
  rw [e1,e2,yO _ _ _ hq,yG _ _ _ hq,Int.add_emod,Int.emod_emod_of_dvd _ (Int.dvd_refl q),Int.emod_emod_of_dvd _ (Int.dvd_refl q), ←Int.add_emod]
 ·rw [if_neg e];have h3:(i≤n∧n - i< k+1)=(i≤n∧n - i< k):=propext (by omega);simp [nums,tUp,h3]
theorem Kl(q:Int)(a b:List Int)(i k:Nat)(hq:zO q=true): ∀y∈tUp q a b i k,U64 y:=fun y hy=>by
 obtain ⟨n,_,rfl⟩:=List.mem_map.1 hy;simp [zO] at hq
 have:=yd (cvI a b n i+if i≤n∧n - i< k then a[i]?.getD 0*b[n - i]?.getD 0 else 0) q hq.1
 exact ⟨this.1,by omega⟩
theorem Qk(q:Int){a b:List Int}(hq:zO q=true)(ha:a≠ [])(hb:b≠ []):Xs q a b=tUp q a b a.length 0:=by
 unfold Xs tUp;rw [if_pos ⟨hq,ha,hb⟩];refine List.map_congr_left fun n _=> ?_
 rw [if_neg (by omega),Int.add_zero]
theorem Rg{q:Int}{a b:List Int}(h: ¬(zO q=true∧a≠ []∧b≠ [])):Xs q a b= []:=by
 unfold Xs;rw [if_neg h]
theorem MD(v v2:Value)(a b:List Int)(q:Int)(X:Nat→Prop)(w:World)(h:Sl ze X w v a)(h2:Sl ze X w v2 b)(hq:U64 q)(hl:a.length+b.length≤1000000):
  Calls prog 231 #[v,v2, .int .u64 q] w (zN ze (fun g=>w.heap.size≤g) w (Xs q a b)):=by
 have H:=za h;have H2:=za h2;have a0:=za (fun w=>Ya q w hq);obtain ⟨A,ca,rfl,T0,S0⟩:=h.form;obtain ⟨B,cb,rfl,R0,Q0⟩:=h2.form;clear h h2 hq;by_cases hm:zO q=true
 ·rw [hm] at a0;have HM:=za hm;by_cases ha:a= []
  ·have B0:((a.length:Int)==0)=true:=by simp [ha]
   rw [Rg (fun h=>h.2.1 ha)];clear hm ha hl;generalize a.length=na at *;go_enter func231,ntmps231;go_wp2_with (refine (a0.z _).mono ?_;rintro e w1 ⟨rfl,rfl⟩);go_ret;exact ⟨_,rfl,Sl.nil _ _ _,gRr _ _⟩
  ·have s0:0< a.length:=List.length_pos_iff.2 ha;have B0:((a.length:Int)==0)=false:=by simp [ha]
   by_cases hb:b= []
   ·have A0:((b.length:Int)==0)=true:=by simp [hb]
    rw [Rg (fun h=>h.2.2 hb)];clear hm ha hb hl s0;generalize a.length=na at *;generalize b.length=nb at *;go_enter func231,ntmps231;go_wp2_with (refine (a0.z _).mono ?_;rintro e w1 ⟨rfl,rfl⟩);go_ret;exact ⟨_,rfl,Sl.nil _ _ _,gRr _ _⟩
   ·have z0:0< b.length:=List.length_pos_iff.2 hb;have A0:((b.length:Int)==0)=false:=by simp [hb]
    rw [Qk q hm ha hb];clear ha hb;obtain ⟨N,hN⟩:=exq (a.length+b.length - 1);have r0:=fun w=>XA w N (by omega)
    have eN1:IntKind.i64.wrap ((a.length:Int)+(b.length:Int))=(a.length:Int)+(b.length:Int):=i6n _ (by omega);have eN2:IntKind.i64.wrap ((a.length:Int)+(b.length:Int) - 1)=(N:Int):=by rw [i6n _ (by omega)];omega
    have HZ:Hid (∀w:World,Bk (w.alloc (.cells (xI [] N) 22)) w.heap.size 22 (nums (tUp q a b 0 0)).toArray):=za (fun w=>by
     rw [hN,Hj];exact Bk.new w _ _)
    have b0:Hid (∀(w w':World) g,Bk w' g 22 (nums (tUp q a b a.length 0)).toArray→w.heap.size≤g→Sl ze (fun g=>w.heap.size≤g) w' (.slice (some ⟨g,0,none⟩) N N) (tUp q a b a.length 0)):=za (fun w w' g hb hg=>
     On hb (by rw [Vc,hN]) (Kl q a b _ _ hm) (by omega) hg)
    have F0:Hid (∀i k,i< a.length→k< b.length→i+k< N):=za (fun i k hi hk=>by omega);have H0:Hid (N≤1000000∧a.length≤1000000∧b.length≤1000000):=za (by omega);have G0:=za hN;clear hm hN hl s0 z0;go_enter func231,ntmps231;go_wp2_with (refine (a0.z _).mono ?_;rintro e w1 ⟨rfl,rfl⟩);clear a0;go_loopg [34] a.length (fun g s34 wx=> ∃i:Nat,i+g=a.length∧s34= .int .i64 i∧Hid (Bk wx w.heap.size 22 (nums (tUp q a b i 0)).toArray∧w.grownBy wx none))
    case atStart=>exact ⟨0,by omega,rfl,za ⟨HZ.z _,gAl w _ _⟩⟩
    case round=>
     obtain ⟨i,hi,rfl,HR⟩:=hrel;cases gk with
     |zero=>
      obtain rfl:i=a.length:=by omega
      have HF:=za (b0.z w wr w.heap.size HR.z.1 (nRf _));have HG:=za HR.z.2;clear HR r0 HZ b0;go_wp2;go_ret;exact ⟨_,rfl,HF.z,HG.z⟩
     |succ m=>
      have K0:(i:Int)< (a.length:Int):=by omega
      have d0:i< a.length:=by omega
      have L0:(0:Int)≤(i:Int):=by omega
      obtain ⟨ga,oa,c',e,_,_,N0,q0⟩:=(H.out.kept HR.z.2).atU d0;injection e with e1 e2 e3
      subst e1 e3;have D0:=za q0;have n0:=za HR.z.1;have k0:=za HR.z.2;clear HR q0 e2 r0 HZ b0;generalize hx:a[i]=x at *;have t0:Hid (∃h:i< a.length,a[i]=x):=za ⟨d0,hx⟩;clear hx;go_wp2_with fail;go_loopg [41] b.length (fun g s41 wx=> ∃k:Nat,k+g=b.length∧s41= .int .i64 k∧Hid (Bk wx w.heap.size 22 (nums (tUp q a b i k)).toArray∧w.grownBy wx none))
      case atStart=>exact ⟨0,by omega,rfl,za ⟨n0.z,k0.z⟩⟩
      case round=>
       obtain ⟨k,hk,rfl,HR⟩:=hrel;cases gk with
       |zero=>
        obtain rfl:k=b.length:=by omega
        have HF:Hid (Bk wr w.heap.size 22 (nums (tUp q a b (i+1) 0)).toArray∧w.grownBy wr none):=za (by rw [←FO];exact HR.z);clear HR n0 k0;have eI:IntKind.i64.wrap ((i:Int)+1)=((i+1:Nat):Int):=by rw [i6n _ (by omega)];omega
        go_wp2_with fail;go_roundg m
        case measure=>omega
        case rel=>exact ⟨i+1,by omega,by go_num,HF⟩
       |succ m2=>
        have I0:(k:Int)< (b.length:Int):=by omega
        have j0:k< b.length:=by omega
        have J0:(0:Int)≤(k:Int):=by omega
        obtain ⟨gb,ob,c',e,_,_,P0,p0⟩:=(H2.z.kept HR.z.2).atU j0;injection e with e1 e2 e3
        subst e1 e3;have C0:=za p0;have u0:=za (FN q a b i k HM.z d0 j0);obtain ⟨y0,o0⟩:=t0.z;rw [o0] at u0;have c0:=F0.z i k d0 j0;have m0:Hid ((nums (tUp q a b i k))[i+k]? =some (.int .u64 ((tUp q a b i k)[i+k]?.getD 0))∧U64 ((tUp q a b i k)[i+k]?.getD 0)):=za (by
         have hl:i+k< (tUp q a b i k).length:=by rw [Vc, ←G0.z];exact c0
         rw [List.getElem?_eq_getElem hl];exact ⟨by simp [nums,hl],Kl q a b i k HM.z _ (lGm hl)⟩)
        have HB:=za HR.z.1;have HG:=za HR.z.2;have eS:IntKind.i64.wrap ((i:Int)+(k:Int))=((i+k:Nat):Int):=by have:=H0.z;rw [i6n _ (by omega)];omega
        have eT:((i+k:Nat):Int)< (N:Int):=by omega
        have eT0:(0:Int)≤((i+k:Nat):Int):=by omega
        have eK:IntKind.i64.wrap ((k:Int)+1)=((k+1:Nat):Int):=by rw [i6n _ (by omega)];omega
        have v0:Hid (∀w',wr.drew.grownBy w' none→Bk w' w.heap.size 22 (nums (tUp q a b i k)).toArray):=za (fun w' hw=>(HB.z.grown (zb wr 1) (by simp)).grown hw (by simp));clear p0 HR e2 t0 y0 o0 c0 n0 k0;generalize b[k]=y at *;generalize hr:i+k=r at *;generalize (tUp q a b i k)[r]?.getD 0=o at *;have U0:=za hr;clear hr;go_wp2_with fail;refine ZF 17 ?_;refine mP0 (.slice (some ⟨w.heap.size,0,none⟩) N N) ?_;refine mP0 (.int .i64 (i:Int)) ?_;refine mP0 (.int .i64 (k:Int)) ?_;refine mP2 (.int .i64 (r:Int)) 1 47 2 48 ?_;refine mP0 (.slice (some ⟨w.heap.size,0,none⟩) N N) ?_;refine mP0 (.int .i64 (i:Int)) ?_;refine mP0 (.int .i64 (k:Int)) ?_;refine mP2 (.int .i64 (r:Int)) 5 51 6 52 ?_;refine mP2 (.pointer (some ⟨w.heap.size,r,none⟩)) 4 50 7 53 ?_;refine mQ1 (.int .u64 o) 8 54 (fun w' hw' K hK=> ?_) ?_
        ·have hc:w'.cell? ⟨w.heap.size,r,none⟩=some (.int .u64 o):=by
          rw [(v0.z w' hw').cell r,List.getElem?_toArray];exact m0.z.1
         go_simp;exact hK _ rfl rfl
        refine mP0 (.int .u64 x) ?_;refine mP0 (.int .u64 y) ?_;refine mP0 (.int .u64 q) ?_;refine mN3 (Pv.eq (.int .u64 (zR x y q))) 10 56 11 57 12 58 (fun w' hw' K hK=> ?_) ?_
        ·go_simp;refine (UA x y q w' D0.z C0.z).mono ?_;rintro e w3 ⟨rfl,hg⟩;exact hK _ _ rfl rfl hg
        refine mP0 (.int .u64 q) ?_;refine mN3 (Pv.eq (.int .u64 (xn o (zR x y q) q))) 9 55 13 59 14 60 (fun w' hw' K hK=> ?_) ?_
        ·go_simp;refine (Mj o (zR x y q) q w' m0.z.2 (yw _ _ _)).mono ?_;rintro e w3 ⟨rfl,hg⟩;exact hK _ _ rfl rfl hg
        refine mP2 (.pointer (some ⟨w.heap.size,r,none⟩)) 0 46 3 49 ?_;intro w3 g0
        iterate 15 (refine pD ?_;intro _)
        intro y15 k15 y16 k16;have e15:y15= .int .u64 (xn o (zR x y q) q):=k15;have e16:y16= .pointer (some ⟨w.heap.size,r,none⟩):=k16;subst e15 e16;simp only [Act.put,sAa,sAb,sAc];clear k15 k16;have f0:=v0.z w3 g0;have O0:w3.cell? ⟨w.heap.size,r,none⟩=some (.int .u64 o):=by
         rw [f0.cell r,List.getElem?_toArray];exact m0.z.1
        have M0:w3.frozen? ⟨w.heap.size,r,none⟩=false:=f0.free r;have l0:Hid (Bk (w3.setCell ⟨w.heap.size,r,none⟩ (.int .u64 (xn o (zR x y q) q))) w.heap.size 22 (nums (tUp q a b i (k+1))).toArray∧w.grownBy (w3.setCell ⟨w.heap.size,r,none⟩ (.int .u64 (xn o (zR x y q) q))) none):=za ⟨(f0.set r _).of_eq (by rw [←u0.z];simp),Zg ((HG.z.trans (zb wr 1)).trans g0) _ _ (nRf _)⟩;clear g0 f0;refine wpList_plain rfl fun K hK=> ?_
        go_simp;refine hK _ _ (wpList_nil ?_);clear hK;go_wp2_with fail;go_roundg m2
        case measure=>omega
        case rel=>exact ⟨k+1,by omega,by go_num,l0⟩
 ·have i0:zO q=false:=by simpa using hm
  rw [i0] at a0;rw [Rg (fun h=>by rw [i0] at h;exact absurd h.1 (by decide))];clear hm i0 hl;generalize a.length=na at *;generalize b.length=nb at *;go_enter func231,ntmps231;go_wp2_with (refine (a0.z _).mono ?_;rintro e w1 ⟨rfl,rfl⟩);go_ret;exact ⟨_,rfl,Sl.nil _ _ _,gRr _ _⟩
end
section
open Go Go.RowKit Go.Shelf
attribute [local go_sem] Oper.semAt_some
theorem QE(A:Option Addr)(n c:Nat)(q:Int)(w:World):
  Calls prog 243 #[.slice A n c, .int .u64 q] w fun e w'=>e= .returned (.func (.func 245) #[] #[.pointer (some ⟨w.heap.size,0,none⟩), .pointer (some ⟨w.heap.size+1,0,none⟩)])∧w'=(w.alloc (.cells #[.slice A n c] 31)).alloc (.cells #[.int .u64 q] 22):=by
 go_enter func243,ntmps243;go_wp2;go_ret;exact ⟨rfl,rfl⟩
theorem TB(B1 B2:Nat)(v:Value)(l:List Int)(i:Nat)(q:Int)(X:Nat→Prop)(w:World)(h:Sl ze X w v l)(d0:Boxed w B1 31 v)(g0:Boxed w B2 22 (.int .u64 q))(hq:zO q=true):
  Calls prog 245 #[.int .i64 i, .pointer (some ⟨B1,0,none⟩), .pointer (some ⟨B2,0,none⟩)] w fun e w'=>e= .returned (.int .u64 (l[i]?.getD 0%q))∧w.grownBy w' none:=by
 have H:=za h;have o0:=za d0;have n0:=za g0;obtain ⟨A,c,rfl,c0,b0⟩:=h.form;have c1:=d0.cell;have p0: ¬q=0:=by simp [zO] at hq;omega
 clear h d0 g0 hq;by_cases hi:i< l.length
 ·have k0: ¬l.length≤i:=by omega
  have j0:(i:Int)< (l.length:Int):=by omega
  obtain ⟨g,o,c',e,_,_,l0,hu⟩:=H.out.atU hi;injection e with e1 e2 e3
  subst e1 e3;have HC:Hid (∀w',w.grownBy w' none→w'.cell? ⟨g,o+i,none⟩=some (.int .u64 l[i])):=za (fun w' hw=>by
   obtain ⟨g2,o2,c2,e2,_,_,h3,_⟩:=(H.out.kept hw).atU hi;injection e2 with e21 e22 e23
   injection e21 with e21
   injection e21 with e24 e25
   subst e24 e25;exact h3)
  have HV:Hid (l[i]?.getD 0%q=l[i]%q):=za (by simp [hi]);rw [HV.z];have f0:Hid (∀w',w.grownBy w' none→w'.cell? ⟨B1,0,none⟩=some (.slice (some ⟨g,o,none⟩) l.length c)∧w'.cell? ⟨B2,0,none⟩=some (.int .u64 q)):=za (fun w' hw=>⟨(o0.z.kept hw (by simp)).cell,(n0.z.kept hw (by simp)).cell⟩);have m0:Hid (Int.tmod l[i] q=l[i]%q):=za (Int.tmod_eq_emod_of_nonneg hu.1);clear e2 l0 HV;generalize hy:l[i]=y at *;clear hy hi;go_enter func245,ntmps245;go_wp2_with fail;refine ZF 7 ?_;refine mQ0 (.slice (some ⟨g,o,none⟩) l.length c) (fun w' hw' K hK=> ?_) ?_
  ·have a0:=(zb w 1).trans hw';have hc:=HC.z w' a0;obtain ⟨c0,b0⟩:=f0.z w' a0;go_simp;exact hK _ rfl rfl
  refine mP0 (.int .i64 (i:Int)) ?_;refine mP2 (.pointer (some ⟨g,o+i,none⟩)) 0 9 1 10 ?_;refine mQ1 (.int .u64 y) 2 11 (fun w' hw' K hK=> ?_) ?_
  ·have a0:=(zb w 1).trans hw';have hc:=HC.z w' a0;obtain ⟨c0,b0⟩:=f0.z w' a0;go_simp;exact hK _ rfl rfl
  refine mQ0 (.int .u64 q) (fun w' hw' K hK=> ?_) ?_
  ·have a0:=(zb w 1).trans hw';have hc:=HC.z w' a0;obtain ⟨c0,b0⟩:=f0.z w' a0;go_simp;exact hK _ rfl rfl
  refine mQ2 (.int .u64 (y%q)) 3 12 4 13 (fun w' hw' K hK=> ?_) ?_
  ·go_simp;rw [m0.z];exact hK _ rfl rfl
  refine mP1 (.int .u64 (y%q)) 5 14 ?_;intro w3 i0
  iterate 6 (refine pD ?_;intro _)
  intro y6 k6;have e6:y6= .int .u64 (y%q):=k6;subst e6;refine wpList_nil ?_;simp only [Act.put,sAa,sAb,sAc];go_wp2_with fail;go_ret;exact ⟨rfl,(zb w 1).trans i0⟩
 ·have k0:l.length≤i:=by omega
  have HV:Hid (l[i]?.getD 0%q=0):=za (by rw [List.getElem?_eq_none (by omega)];simp);rw [HV.z];clear hi HV;go_enter func245,ntmps245;go_wp2;go_ret;exact ⟨rfl,gRr _ _⟩
def sUp(q:Int)(a b:List Int)(j:Nat):List Int:=(List.range j).map fun i=>xn (a[i]?.getD 0) (b[i]?.getD 0) q
theorem Hr(q:Int)(a b:List Int)(j:Nat)(hq:zO q=true):sUp q a b (j+1)=sUp q a b j++ [xn (a[j]?.getD 0%q) (b[j]?.getD 0%q) q]:=by
 unfold sUp;rw [List.range_succ,lMa];simp only [List.map_cons,List.map_nil];rw [yO _ _ _ hq,yO _ _ _ hq,Int.add_emod (a[j]?.getD 0%q),Int.emod_emod_of_dvd _ (Int.dvd_refl q),Int.emod_emod_of_dvd _ (Int.dvd_refl q), ←Int.add_emod]
theorem Tv(q:Int)(a b:List Int)(j:Nat):(sUp q a b j).length=j:=by simp [sUp]
theorem FY(q:Int)(a b:List Int)(j:Nat): ∀y∈sUp q a b j,U64 y:=fun y hy=>by
 obtain ⟨n,_,rfl⟩:=List.mem_map.1 hy;exact XT _ _ _
theorem FP(q:Int)(a b:List Int)(hq:zO q=true):VT q a b=sUp q a b (max a.length b.length):=by
 unfold VT sUp;rw [if_pos hq]
theorem OH(x:Int){q:Int}(hq:zO q=true):U64 (x%q):=by
 simp [zO] at hq
 have:=yd x q hq.1
 exact ⟨this.1,by omega⟩
theorem Hy(v v2:Value)(a b:List Int)(q:Int)(X:Nat→Prop)(w:World)(h:Sl ze X w v a)(h2:Sl ze X w v2 b)(hq:U64 q)(hl:a.length≤1000000∧b.length≤1000000):
  Calls prog 234 #[v,v2, .int .u64 q] w (zN ze (fun g=>w.heap.size≤g) w (VT q a b)):=by
 have H:=za h;have H2:=za h2;have a0:=za (fun w=>Ya q w hq);obtain ⟨A,ca,rfl,u0,J0⟩:=h.form;obtain ⟨B,cb,rfl,t0,I0⟩:=h2.form;clear h h2 hq;by_cases hm:zO q=true
 ·rw [hm] at a0;have HM:=za hm;obtain ⟨N,hN⟩:=exq (max a.length b.length);have l0:=fun w=>XA w N (by omega)
  have eM:max (a.length:Int) (b.length:Int)=(N:Int):=by omega
  rw [FP q a b hm, ←hN];have HL:Hid (N≤1000000):=za (by omega);obtain ⟨na,k0⟩:=exq (a.length);obtain ⟨nb,j0⟩:=exq (b.length);rw [←k0] at H u0 eM ⊢;rw [←j0] at H2 t0 eM ⊢;clear hm hN hl k0 j0;obtain ⟨W0,f0⟩:=exq ((((w.alloc (.cells #[.slice A na ca] 31)).alloc (.cells #[.int .u64 q] 22)).alloc (.cells #[.slice B nb cb] 31)).alloc (.cells #[.int .u64 q] 22));have HF:=za (TG w _ _ _ _ _ _ _ _ W0 f0);have o0:Hid (W0.heap.size=w.heap.size+1+1+1+1):=za HF.z.2.2.2.2.2;go_enter func234,ntmps234;go_wp2_with (refine (a0.z _).mono ?_;rintro e w1 ⟨rfl,rfl⟩);go_wp2_with (refine (QE _ _ _ q _).mono ?_;rintro e w1 ⟨rfl,rfl⟩);go_wp2_with (refine (QE _ _ _ q _).mono ?_;rintro e w1 ⟨rfl,rfl⟩);rw [←f0];clear a0 f0;go_wp2_with fail;go_loopg [28] N (fun g s28 wx=> ∃j:Nat,j+g=N∧s28= .int .i64 j∧Hid (Bk wx (w.heap.size+1+1+1+1) 22 (xI (sUp q a b j) N)∧W0.grownBy wx none))
  case atStart=>exact ⟨0,by omega,rfl,za ⟨by have h:=Bk.new W0 22 (xI [] N);rw [o0.z] at h;exact h,gAl W0 _ _⟩⟩
  case round=>
   obtain ⟨j,hj,rfl,HX⟩:=hrel;cases gk with
   |zero=>
    obtain rfl:j=N:=by omega
    have HR:Hid (Sl ze (fun g=>w.heap.size≤g) wr (.slice (some ⟨w.heap.size+1+1+1+1,0,none⟩) j j) (sUp q a b j)∧w.grownBy wr none):=za ⟨Oo HX.z.1 (Tv _ _ _ _) (FY _ _ _ _) (by have:=HL.z;omega) (by omega),HF.z.2.2.2.2.1.trans HX.z.2⟩;clear HX l0;go_wp2;go_ret;exact ⟨_,rfl,HR.z.1,HR.z.2⟩
   |succ m=>
    have D0:(j:Int)< (N:Int):=by omega
    have s0:j< N:=by omega
    have F0:(0:Int)≤(j:Int):=by omega
    have HG:=za HX.z.2;have HB:=za HX.z.1;have q0:=za (fun w' (hw:W0.grownBy w' none)=>TB _ _ _ a j q X w' (H.out.kept (HF.z.2.2.2.2.1.trans hw)) (HF.z.1.kept hw (by simp)) (HF.z.2.1.kept hw (by simp)) HM.z);have p0:=za (fun w' (hw:W0.grownBy w' none)=>TB _ _ _ b j q X w' (H2.z.kept (HF.z.2.2.2.2.1.trans hw)) (HF.z.2.2.1.kept hw (by simp)) (HF.z.2.2.2.1.kept hw (by simp)) HM.z);have z0:=za (Hr q a b j HM.z);have g0:=za (Tv q a b j);have y0:=za (OH (a[j]?.getD 0) HM.z);have v0:=za (OH (b[j]?.getD 0) HM.z);have K0:Hid (w.heap.size≤W0.heap.size):=za HF.z.2.2.2.2.1.size;have L0:=za HF.z.2.2.2.2.1;clear HX l0 HF;generalize a[j]?.getD 0%q=x at *;generalize b[j]?.getD 0%q=y at *;generalize sUp q a b j=L at *;generalize n0:sUp q a b (j+1)=LN at *;have A0:=za n0;clear n0;go_wp2_with fail;refine (q0.z _ HG.z).mono ?_;rintro e w1 ⟨rfl,hg1⟩;have i0:=za (HG.z.trans hg1);have r0:=za (HB.z.grown hg1 (by simp));clear hg1 q0 HG HB;go_wp2_with fail;refine (p0.z _ i0.z).mono ?_;rintro e w2 ⟨rfl,hg2⟩;have B0:=za (i0.z.trans hg2);have C0:=za (r0.z.grown hg2 (by simp));clear hg2 p0 i0 r0;go_wp2_with fail;refine (Mj x y q w2 y0.z v0.z).mono ?_;rintro e w3 ⟨rfl,hg3⟩;have d0:=C0.z.grown hg3 (by simp);obtain ⟨old,b0⟩:=NO L N j s0 (by rw [g0.z];omega);have H0:w3.cell? ⟨w.heap.size+1+1+1+1,j,none⟩=some old:=(d0.cell j).trans b0;have G0:w3.frozen? ⟨w.heap.size+1+1+1+1,j,none⟩=false:=d0.free j;have c0:Hid (Bk (w3.setCell ⟨w.heap.size+1+1+1+1,j,none⟩ (.int .u64 (xn x y q))) (w.heap.size+1+1+1+1) 22 (xI LN N)∧W0.grownBy (w3.setCell ⟨w.heap.size+1+1+1+1,j,none⟩ (.int .u64 (xn x y q))) none):=za ⟨by
     have e:=Pf L N (xn x y q) (by rw [g0.z];omega);rw [g0.z] at e;have hs:=d0.set j (.int .u64 (xn x y q));rw [e, ←z0.z] at hs;exact hs,Zg (B0.z.trans hg3) _ _ (nLe o0.z)⟩
    clear hg3 d0 b0;go_wp2_with fail;go_roundg m
    case measure=>omega
    case rel=>exact ⟨j+1,by omega,by go_num,by rw [←A0.z] at c0;exact c0⟩
 ·have m0:zO q=false:=by simpa using hm
  rw [m0] at a0;have e0:VT q a b= []:=by unfold VT;rw [if_neg hm]
  rw [e0];clear hm m0 hl e0;generalize a.length=na at *;generalize b.length=nb at *;go_enter func234,ntmps234;go_wp2_with (refine (a0.z _).mono ?_;rintro e w1 ⟨rfl,rfl⟩);go_ret;exact ⟨_,rfl,Sl.nil _ _ _,gRr _ _⟩
end
section
open Go Go.RowKit Go.Shelf
attribute [local go_sem] Oper.semAt_some
theorem UZ{q:Int}(hq:zO q=true): ∀(xs:List Int) (s:List Int),s≠ []→(xs.foldl (fun all x=>Xs q all [YQ 0 x q,1]) s).length=s.length+xs.length
 | [],s,_=>by simp
 |x::xs,s,hs=>by
  have hl:(Xs q s [YQ 0 x q,1]).length=s.length+1:=by rw [Qk q hq hs (by simp),Vc];simp
  rw [List.foldl_cons,UZ hq xs _ (by intro e;rw [e] at hl;simp at hl),hl];simp;omega
theorem YB{q:Int}(hq:zO q=true)(xs:List Int)(j:Nat)(hj:j≤xs.length):(VZ q (xs.take j)).length=j+1:=by
 unfold VZ;rw [UZ hq _ _ (by simp)];simp;omega
theorem Vx{q:Int}(hq:zO q=true)(xs ys:List Int)(n:Nat):(Zu q xs ys n).length=xs.length:=by
 induction n with
 |zero=>simp [Zu]
 |succ n ih=>
  rw [ZM,Uh hq,ZZ hq,ih]
  have:(zX q (VZ q xs) (xs[n]?.getD 0)).length=xs.length:=by
   have h:=YB hq xs xs.length (nRf _);rw [List.take_length] at h;simp [zX,h]
  omega
theorem Lh(n:Nat):xI [] n=xI (List.replicate n 0) n:=by simp [xI,nums]
theorem AN(w:World)(a b:Int)(ha:U64 a)(hb:U64 b):Sl ze TT (w.alloc (.cells #[.int .u64 a, .int .u64 b] 22)) (.slice (some ⟨w.heap.size,0,none⟩) 2 2) [a,b]:=Sl.build [[.int .u64 a], [.int .u64 b]] rfl ⟨⟨rfl,ha⟩,⟨rfl,hb⟩,trivial⟩ rfl (by decide)
theorem El{q:Int}(hq:zO q=true):U64 (1%q):=OH 1 hq
theorem Ug(v v2:Value)(xs ys:List Int)(q:Int)(X:Nat→Prop)(w:World)(h:Sl ze X w v xs)(h2:Sl ze X w v2 ys)(hq:U64 q):
  Calls prog 208 #[v,v2, .int .u64 q] w (Cj ze (fun g=>w.heap.size≤g) w (Xn q xs ys) (Mt q xs ys)):=by
 have H:=za h;have H2:=za h2;have a0:=za (fun w=>Ya q w hq);have k0:=za (fun w' (hw:w.grownBy w' none)=>Mp v xs q X w' (h.kept hw) hq);obtain ⟨A,c,rfl,p1,o1⟩:=h.form;obtain ⟨A2,c2,rfl,X0,n1⟩:=h2.form;clear h h2 hq;obtain ⟨te,g0⟩:=exq (Mt q xs ys);obtain ⟨tl,y0⟩:=exq (Xn q xs ys);rw [←g0, ←y0];have b0:Hid ((te=0→tl=Zu q xs ys xs.length)∧(¬te=0→tl= [])):=za ⟨fun e=>by rw [y0,Xn, ←g0,if_pos e],fun e=>by rw [y0,Xn, ←g0,if_neg e]⟩;clear y0;by_cases hm:zO q=true
 ·rw [hm] at a0;by_cases l0:xs.length=ys.length
  ·have R0:((xs.length:Int) !=(ys.length:Int))=false:=by simp [l0]
   have h0:te=FI q xs 0:=by rw [g0,Mt,if_pos ⟨hm,l0⟩]
   clear g0;by_cases f0:xp xs q=0
   ·obtain ⟨_,hl⟩:=Qg f0;have HM:=za hm;have q0:Hid (((∀i,i< xs.length→yi (xO q xs 0 i) q)→te=0)∧(∀i,i< xs.length→ ¬yi (xO q xs 0 i) q→te=5)):=za ⟨fun e=>by rw [h0,FI,if_pos f0,if_pos e],fun i hi e=>by rw [h0,FI,if_pos f0,if_neg (fun hx=>e (hx i hi))]⟩;rw [f0] at k0;have z0:=fun w=>XA w xs.length (by omega)
    have V0:=za l0;have HL:=za hl;have i1: ¬q=0:=by have:=(Yx hm).1;omega
    have q1:Hid (Int.tmod 1 q=1%q):=za (Int.tmod_eq_emod_of_nonneg (by decide));have r0:=za (El hm);have g1:=za (fun j (hj:j< xs.length) w' (hw:w.grownBy w' none)=>Rl (.slice A xs.length c) xs j 0 q X w' (H.out.kept hw) hj ⟨by decide,by decide⟩ hm);have HQ:Hid (U64 q):=za (by have:=Yx hm;exact ⟨by omega,by omega⟩);clear h0 hm f0 hl l0;obtain ⟨ny,H0⟩:=exq (ys.length);rw [←H0] at H2 X0 R0 V0 ⊢;have O0:=za H0;clear H0;go_enter func208,ntmps208;go_wp2_with (refine (a0.z _).mono ?_;rintro e w1 ⟨rfl,rfl⟩);go_wp2_with (refine (k0.z _ (gRr _ _)).mono ?_;rintro e w1 ⟨rfl,hg1⟩);have D0:=za hg1;clear hg1 k0 a0;go_wp2_with fail;go_loopg [9,39] xs.length (fun g s9 s39 wx=> ∃j:Nat,j+g=xs.length∧s39= .int .i64 j∧Hid (Sl ze (fun g=>w.heap.size≤g) wx s9 (VZ q (xs.take j))∧w.grownBy wx none))
    case atStart=>
     refine ⟨0,by omega,rfl,za ⟨?_,D0.z.trans (gAl w1 _ _)⟩⟩;exact On (l:= [1%q]) (n:=1) (Bk.new w1 _ _) rfl (fun x hx=>by rw [List.mem_singleton.1 hx];exact r0.z) (by decide) D0.z.size
    case round=>
     obtain ⟨j,hj,rfl,HX⟩:=hrel;cases gk with
     |zero=>
      obtain rfl:j=xs.length:=by omega
      have v0:Hid (Sl ze (fun g=>w.heap.size≤g) wr u9 (VZ q xs)∧w.grownBy wr none):=za (by have h:=HX.z;rw [List.take_length] at h;exact h);have j0:Hid ((VZ q xs).length=xs.length+1):=za (by have h:=YB HM.z xs xs.length (nRf _);rwa [List.take_length] at h);clear HX r0;obtain ⟨Aa,ca,ea,_,_⟩:=v0.z.1.form;subst ea;obtain ⟨al,J0⟩:=exq (VZ q xs);rw [←J0] at v0 j0 ⊢;have P0:=za J0;clear J0;go_wp2_with fail;go_loopg [12,56] xs.length (fun g s12 s56 wx=> ∃j:Nat,j+g=xs.length∧s56= .int .i64 j∧Hid (Sl ze (fun g=>w.heap.size≤g) wx s12 (Zu q xs ys j)∧w.grownBy wx none∧(∀i,i< j→yi (xO q xs 0 i) q)∧Sl ze (fun g=>w.heap.size≤g) wx (.slice Aa al.length ca) al))
      case atStart=>
       refine ⟨0,by omega,rfl,za ⟨?_,v0.z.2.trans (gAl wr _ _),fun i hi=>absurd hi (by omega),v0.z.1.kept (gAl wr _ none)⟩⟩;have hb:=(Bk.new wr 22 (xI [] xs.length)).of_eq (Lh _);exact Oo hb (by simp) (fun x hx=>by rw [(List.mem_replicate.1 hx).2];exact ⟨by decide,by decide⟩) (by have:=HL.z;omega) v0.z.2.size
      case round=>
       obtain ⟨j,hj,rfl,HX⟩:=hrel;cases gk with
       |zero=>
        obtain rfl:j=xs.length:=by omega
        have h0:te=0:=q0.z.1 HX.z.2.2.1;subst h0;have HR:Hid (Sl ze (fun g=>w.heap.size≤g) wr u12 tl∧w.grownBy wr none):=za ⟨by rw [b0.z.1 rfl];exact HX.z.1,HX.z.2.1⟩;clear HX b0 q0 z0;go_wp2;go_ret2;exact ⟨_,rfl,HR.z.1,HR.z.2⟩
       |succ m=>
        have x0:(j:Int)< (xs.length:Int):=by omega
        have i0:j< xs.length:=by omega
        have E0:(0:Int)≤(j:Int):=by omega
        have HG:=za HX.z.2.1;have HS:=za (g1.z j i0 wr HX.z.2.1);have b1:Hid (U64 xs[j]):=za (by obtain ⟨_,_,_,_,_,_,_,hu⟩:=H.out.atU i0;exact hu);obtain ⟨g,o,c',e,_,_,W0,_⟩:=(H.out.kept HX.z.2.1).atU i0;injection e with e1 e2 e3
        subst e1 e3;have I0:j< ys.length:=by rw [←O0.z, ←V0.z];exact i0
        have w0:(j:Int)< (ny:Int):=by rw [O0.z];omega
        have Z0:=za (fun w' (hw:w.grownBy w' none)=>(H2.z.kept hw).atU I0);obtain ⟨g2,o2,c2',e,_,_,_,o0⟩:=H2.z.atU I0;rw [←O0.z] at e;injection e with e1 e4 e5
        subst e1 e5;have Y0:Hid (∀w',w.grownBy w' none→w'.cell? ⟨g2,o2+j,none⟩=some (.int .u64 ys[j])):=za (fun w' hw=>by
         obtain ⟨g3,o3,c3,e3,_,_,h3,_⟩:=Z0.z w' hw;injection e3 with e31 e32 e33
         injection e31 with e31
         injection e31 with e34 e35
         subst e34 e35;exact h3)
        have a1:=za o0;clear Z0 o0 e4 e2;by_cases hi:yi (xO q xs 0 j) q
        ·rw [Mz hi] at HS;have c1:=za (Gv HM.z hi);have HI:Hid (∀i,i< j+1→yi (xO q xs 0 i) q):=za (fun i l1=>by
          rcases Nat.lt_or_ge i j with h'|h'
          ·exact HX.z.2.2.1 i h'
          ·obtain rfl:i=j:=by omega
           exact hi)
         have N0:Hid (Zu q xs ys (j+1)=VT q (Zu q xs ys j) (xg q (zX q al xs[j]) (zR (Qc (xO q xs 0 j) q) ys[j] q))):=za (by rw [ZM, ←P0.z];simp [i0,I0]);have K0:=za (Vx HM.z xs ys j);have S0:Hid ((zX q al xs[j]).length=xs.length):=za (by simp [zX,j0.z]);have t0:Hid (al≠ []∧al.length≤1000000):=za ⟨by intro e;have:=j0.z;rw [e] at this;simp at this,by rw [j0.z];have:=HL.z;omega⟩;have s0:=za HX.z.2.2.2;have M0:=za HX.z.1;clear hi HX b0 q0 z0;generalize xs[j]=x at *;generalize ys[j]=y at *;generalize Qc (xO q xs 0 j) q=iv at *;generalize Zu q xs ys j=L at *;generalize p0:Zu q xs ys (j+1)=LN at *;have m0:=za p0;clear p0;obtain ⟨A3,c3,e3,_,_⟩:=M0.z.form;subst e3;have k1:((0:Int) !=0)=false:=rfl;go_wp2_with (go_at_call 233;refine HS.z.mono ?_;rintro e2 w2 ⟨rfl,hg2⟩);have c0:=za ((HG.z.trans hg2).trans (zb w2 1));have L0:=za (M0.z.kept (hg2.trans (zb w2 1)));have u0:Hid (Sl ze (fun g=>w.heap.size≤g) w2.drew (.slice Aa al.length ca) al):=za (s0.z.kept ((hg2.trans (zb w2 1))));clear hg2 HS s0 M0 HG;go_wp2_with fail;refine ZF 17 ?_;refine mP0 (.slice A3 L.length c3) ?_;refine mP0 (.slice Aa al.length ca) ?_;refine mP0 (.int .u64 x) ?_;refine mP0 (.int .u64 q) ?_;refine mN3 (Pv.sl ze (fun g=>w.heap.size≤g) (zX q al x)) 1 73 2 74 3 75 (fun w' hw' K hK=> ?_) ?_
         ·go_simp;refine (QC _ al x q _ w' (u0.z.kept hw') b1.z t0.z.2 t0.z.1).mono ?_;rintro e w3 ⟨v3,rfl,hs,hg⟩;refine hK _ _ rfl ?_ hg;exact hs.more fun g _ h=>nLT (c0.z.trans hw').size h
         refine mP0 (.int .u64 iv) ?_;refine mP0 (.slice (some ⟨g2,o2,none⟩) ny c2) ?_;refine mP0 (.int .i64 (j:Int)) ?_;refine mP2 (.pointer (some ⟨g2,o2+j,none⟩)) 6 78 7 79 ?_;refine mQ1 (.int .u64 y) 8 80 (fun w' hw' K hK=> ?_) ?_
         ·have hc:=Y0.z w' (c0.z.trans hw');go_simp;exact hK _ rfl rfl
         refine mP0 (.int .u64 q) ?_;refine mN3 (Pv.eq (.int .u64 (zR iv y q))) 5 77 9 81 10 82 (fun w' hw' K hK=> ?_) ?_
         ·go_simp;refine (UA iv y q w' c1.z a1.z).mono ?_;rintro e w3 ⟨rfl,hg⟩;exact hK _ _ rfl rfl hg
         refine mP0 (.int .u64 q) ?_;refine mV (Pv.sl ze (fun g=>w.heap.size≤g) (xg q (zX q al x) (zR iv y q))) [(4,76),(11,83),(12,84)] (fun w' hw' x76 C0=>pQ (pQ (kD fun K hK=> ?_))) ?_
         ·have C0:Sl ze (fun g=>w.heap.size≤g) w' x76 (zX q al x):=C0;obtain ⟨A76,c76,e76,k76,l76⟩:=C0.form;subst e76;go_simp;refine (ME _ (zX q al x) (zR iv y q) q _ w' C0 (yw _ _ _) HQ.z (by have:=HL.z;rw [S0.z];omega)).mono ?_;rintro e w3 ⟨v3,rfl,hs,hg⟩;refine hK _ _ rfl ?_ hg;exact hs.more fun g _ h=>nLT (c0.z.trans hw').size h
         refine mP0 (.int .u64 q) ?_;refine mV (Pv.sl ze (fun g=>w.heap.size≤g) (VT q L (xg q (zX q al x) (zR iv y q)))) [(0,72),(13,85),(14,86)] (fun w' hw'=>pQ (fun x85 B0=>pQ (kD fun K hK=> ?_))) ?_
         ·have B0:Sl ze (fun g=>w.heap.size≤g) w' x85 (xg q (zX q al x) (zR iv y q)):=B0;obtain ⟨A85,c85,e85,k85,l85⟩:=B0.form;subst e85;go_simp;refine (Hy _ _ L (xg q (zX q al x) (zR iv y q)) q _ w' (L0.z.kept hw') B0 HQ.z (by have:=HL.z;rw [ZZ HM.z,S0.z,K0.z];omega)).mono ?_;rintro e w3 ⟨v3,rfl,hs,hg⟩;refine hK _ _ rfl ?_ hg;exact hs.more fun g _ h=>nLT (c0.z.trans hw').size h
         refine mV (Pv.sl ze (fun g=>w.heap.size≤g) (VT q L (xg q (zX q al x) (zR iv y q)))) [(15,87)] (fun w' hw' x87 A0=>kD fun K hK=> ?_) ?_
         ·have A0:Sl ze (fun g=>w.heap.size≤g) w' x87 (VT q L (xg q (zX q al x) (zR iv y q))):=A0;obtain ⟨A87,c87,e87,k87,l87⟩:=A0.form;subst e87;go_simp;exact hK _ _ rfl A0 gRf
         intro w3 F0
         iterate 16 (refine pD ?_;intro _)
         intro y16 k16;have d0:Hid (Sl ze (fun g=>w.heap.size≤g) w3 y16 LN∧w.grownBy w3 none∧(∀i,i< j+1→yi (xO q xs 0 i) q)∧Sl ze (fun g=>w.heap.size≤g) w3 (.slice Aa al.length ca) al):=za ⟨by rw [N0.z];exact k16,c0.z.trans F0,HI.z,u0.z.kept F0⟩;clear k16 F0;refine wpList_nil ?_;simp only [Act.put,sAa,sAb,sAc];go_wp2_with fail;go_roundg m
         case measure=>omega
         case rel=>exact ⟨j+1,by omega,by go_num,by rw [←m0.z] at d0;exact d0⟩
        ·rw [KA hi] at HS;have h5:te=5:=q0.z.2 j i0 hi;subst h5;have n0:=za (b0.z.2 (by decide));clear hi HX b0 q0 z0 Y0;go_wp2_with (go_at_call 233;refine HS.z.mono ?_;rintro e2 w2 ⟨rfl,hg2⟩);have c0:=za (HG.z.trans hg2);clear hg2 HS;go_wp2_with fail;go_ret2;exact ⟨_,rfl,by rw [n0.z];exact Sl.nil _ _ _,c0.z⟩
     |succ m=>
      have x0:(j:Int)< (xs.length:Int):=by omega
      have i0:j< xs.length:=by omega
      have E0:(0:Int)≤(j:Int):=by omega
      obtain ⟨g,o,c',e,_,_,W0,o0⟩:=(H.out.kept HX.z.2).atU i0;injection e with e1 e2 e3
      subst e1 e3;have U0:=za (fun w'=>Kt 0 xs[j] q w' ⟨by decide,by decide⟩ o0);have d1:Hid (U64 (YQ 0 xs[j] q)):=za (Ri _ _ _);have N0:=za (ID q xs j i0);have f1:=za (YB HM.z xs j (by omega));have HB:=za HX.z.1;have HG:=za HX.z.2;obtain ⟨A3,c3,e3,_,_⟩:=HB.z.form;subst e3;clear e2 HX z0 o0;generalize xs[j]=x at *;generalize VZ q (xs.take j)=L at *;generalize p0:VZ q (xs.take (j+1))=LN at *;have m0:=za p0;clear p0;go_wp2_with (refine (U0.z _).mono ?_;rintro e w2 ⟨rfl,hg2⟩);have c0:=za (HG.z.trans hg2);have e0:=za (HB.z.kept hg2);clear hg2 U0 HG HB;have T0:=za (MD (.slice A3 L.length c3) (.slice (some ⟨w2.heap.size,0,none⟩) 2 2) L [YQ 0 x q,1] q TT (w2.alloc (.cells #[.int .u64 (YQ 0 x q), .int .u64 1] 22)) ((e0.z.kept (gAl w2 _ none)).more fun _ _ _=>trivial) (AN w2 _ _ d1.z ⟨by decide,by decide⟩) HQ.z (by rw [f1.z];have:=HL.z;simp;omega));refine T0.z.mono ?_;rintro e w4 ⟨v4,rfl,hs4,hg4⟩;have d0:Hid (Sl ze (fun g=>w.heap.size≤g) w4 v4 LN∧w.grownBy w4 none):=za ⟨by
       rw [N0.z];exact hs4.more fun g _ h=>nLT (nLT c0.z.size (gAl w2 _ none).size) h,(c0.z.trans (gAl w2 _ none)).trans hg4⟩
      clear hs4 hg4 T0 c0 e0;go_wp2_with fail;go_roundg m
      case measure=>omega
      case rel=>exact ⟨j+1,by omega,by go_num,by rw [←m0.z] at d0;exact d0⟩
   ·have G0:te=xp xs q:=by rw [h0,FI,if_neg f0]
    have n0:=za (b0.z.2 (by rw [G0];exact f0));rw [←G0] at k0 f0;have j1:(te !=0)=true:=by simpa using f0
    clear b0 h0 G0 hm l0 f0;generalize xs.length=nx at *;generalize ys.length=ny at *;go_enter func208,ntmps208;go_wp2_with (refine (a0.z _).mono ?_;rintro e w1 ⟨rfl,rfl⟩);go_wp2_with (refine (k0.z _ (gRr _ _)).mono ?_;rintro e w1 ⟨rfl,hg1⟩);have D0:=za hg1;clear hg1 k0;go_wp2_with fail;go_ret2;exact ⟨_,rfl,by rw [n0.z];exact Sl.nil _ _ _,D0.z⟩
  ·have R0:((xs.length:Int) !=(ys.length:Int))=true:=by simp;omega
   have h1:te=1:=by rw [g0,Mt,if_neg (fun h=>l0 h.2)]
   subst h1;have n0:=za (b0.z.2 (by decide));clear g0 b0 hm l0 k0;generalize xs.length=nx at *;generalize ys.length=ny at *;go_enter func208,ntmps208;go_wp2_with (refine (a0.z _).mono ?_;rintro e w1 ⟨rfl,rfl⟩);go_ret2;exact ⟨_,rfl,by rw [n0.z];exact Sl.nil _ _ _,gRr _ _⟩
 ·have Q0:zO q=false:=by simpa using hm
  rw [Q0] at a0;have h1:te=1:=by rw [g0,Mt,if_neg (fun h=>hm h.1)]
  subst h1;have n0:=za (b0.z.2 (by decide));clear g0 b0 hm Q0 k0;generalize xs.length=nx at *;generalize ys.length=ny at *;go_enter func208,ntmps208;go_wp2_with (refine (a0.z _).mono ?_;rintro e w1 ⟨rfl,rfl⟩);go_ret2;exact ⟨_,rfl,by rw [n0.z];exact Sl.nil _ _ _,gRr _ _⟩
end
section
open Go
def upI(l:List Nat):List Int:=l.map fun (a:Nat)=>(a:Int)+1
def Yu:List (List Int):=(List.range 7).flatMap fun a=>(List.range 7).flatMap fun b=>if a< b then upI [a,b]::((List.range 7).filterMap fun c=>if b< c then some (upI [a,b,c]) else none) else []
def kC(xs:List Int)(i:Nat):Int:=((Ft (xO 11 xs 0 i) 11).getD 0:Nat)
def wC(xs:List Int)(i:Nat):List Int:=zX 11 (VZ 11 xs) (xs[i]?.getD 0)
def xC(xs:List Int)(i:Nat):Int:=xs[i]?.getD 0
def BG(xs:List Int):Bool:=
 (List.range xs.length).all fun i=>decide ((wC xs i).length=xs.length) && decide ((VZ 11 (xs.take i)).length=i+1) && (Ft (zH 11 (VZ 11 (xs.take i)) (xC xs i)) 11).isSome &&
  (List.range xs.length).all fun l=>decide ((kC xs i*evZ (xC xs l) (wC xs i))%11=if i=l then 1 else 0) && (decide (i≤l)||decide (evZ (xC xs l) (VZ 11 (xs.take i))%11=0))
def DW(xs:List Int):Bool:=
 (List.range xs.length).all fun k=>(List.range xs.length).all fun j=>decide (((List.range xs.length).map fun l=>(xC xs l) ^ k*(kC xs l*(wC xs l)[j]?.getD 0)).sum%11=if k=j then 1 else 0)
theorem GV:Yu.all BG=true:=by decide+kernel
theorem Ih:Yu.all DW=true:=by decide+kernel
theorem Tj:zO 11=true:=by decide
structure Cu (xs:List Int):Prop where
 len:xs.length=2∨xs.length=3
 wlen: ∀i,i< xs.length→(wC xs i).length=xs.length
 alen: ∀i,i< xs.length→(VZ 11 (xs.take i)).length=i+1
 inv: ∀i,i< xs.length→yi (zH 11 (VZ 11 (xs.take i)) (xC xs i)) 11
 one: ∀i l,i< xs.length→l< xs.length→Cg 11 (kC xs i*evZ (xC xs l) (wC xs i)) (if i=l then 1 else 0)
 zero: ∀i l,i< xs.length→l< i→Cg 11 (evZ (xC xs l) (VZ 11 (xs.take i))) 0
 back: ∀k j,k< xs.length→j< xs.length→Cg 11 (((List.range xs.length).map fun l=>(xC xs l) ^ k*(kC xs l*(wC xs l)[j]?.getD 0)).sum) (if k=j then 1 else 0)
theorem Kr:Yu.all (fun xs=>decide (xs.length=2)||decide (xs.length=3))=true:=by decide+kernel
theorem FS{xs:List Int}(h:xs∈Yu):Cu xs:=by
 have h1:=List.all_eq_true.1 GV xs h;have h2:=List.all_eq_true.1 Ih xs h;have h3:=List.all_eq_true.1 Kr xs h;have c1: ∀i,i< xs.length→(wC xs i).length=xs.length∧(VZ 11 (xs.take i)).length=i+1∧(Ft (zH 11 (VZ 11 (xs.take i)) (xC xs i)) 11).isSome=true∧ ∀l,l< xs.length→(kC xs i*evZ (xC xs l) (wC xs i))%11=(if i=l then 1 else 0)∧(i≤l∨evZ (xC xs l) (VZ 11 (xs.take i))%11=0):=fun i hi=>by
  have:=List.all_eq_true.1 h1 i (List.mem_range.2 hi)
  simp only [Bool.and_eq_true,decide_eq_true_eq] at this;refine ⟨this.1.1.1,this.1.1.2,this.1.2,fun l hl=> ?_⟩;have h9:=List.all_eq_true.1 this.2 l (List.mem_range.2 hl);simpa using h9
 have c2: ∀k j,k< xs.length→j< xs.length→(((List.range xs.length).map fun l=>(xC xs l) ^ k*(kC xs l*(wC xs l)[j]?.getD 0)).sum)%11=if k=j then 1 else 0:=fun k j hk hj=>by
  have:=List.all_eq_true.1 (List.all_eq_true.1 h2 k (List.mem_range.2 hk)) j (List.mem_range.2 hj)
  simpa using this
 refine ⟨by simpa using h3,fun i hi=>(c1 i hi).1,fun i hi=>(c1 i hi).2.1,fun i hi=>(YZ (by decide)).2 (c1 i hi).2.2.1,fun i l hi hl=> ?_,fun i l hi hl=> ?_,fun k j hk hj=> ?_⟩
 ·have:=((c1 i hi).2.2.2 l hl).1
  unfold Cg;rw [this];split<;>rfl
 ·have:=((c1 i hi).2.2.2 l (by omega)).2.resolve_left (by omega)
  unfold Cg;rw [this];rfl
 ·unfold Cg;rw [c2 k j hk hj];split<;>rfl
theorem DI(xs:List Int)(i:Nat):Qc (xO 11 xs 0 i) 11=kC xs i:=Jt (by decide)
theorem Kj(xs ys:List Int)(x:Int): ∀n,Cg 11 (evZ x (Zu 11 xs ys n)) (((List.range n).map fun i=>kC xs i*evZ x (wC xs i)*ys[i]?.getD 0).sum)
 |0=>by
  have e: ∀m,evZ x (List.replicate m 0)=0:=by
   intro m;induction m with
   |zero=>rfl
   |succ m ih=>show 0+x*evZ x (List.replicate m 0)=0;rw [ih];omega
  exact Cg.of_eq (by simpa [Zu] using e xs.length)
 |n+1=>by
  rw [ZM,List.range_succ,lMa,List.sum_append];refine (JJ Tj x _ _).trans (Cg.add (Kj xs ys x n) ?_);refine (Pi Tj x _ _).trans ?_;rw [DI];refine ((Fq Tj _ _).mul_left _).trans (Cg.of_eq ?_);simp [wC]
  grind
theorem Vb{xs:List Int}(h:Cu xs)(ys:List Int): ∀n,n≤xs.length→(Zu 11 xs ys n).length=xs.length
 |0,_=>by simp [Zu]
 |n+1,hn=>by
  rw [ZM,Uh Tj,ZZ Tj,Vb h ys n (by omega)]
  have:=h.wlen n (by omega)
  unfold wC at this;rw [this];simp
theorem No{xs:List Int}(h:Cu xs)(ys:List Int): ∀l,l< xs.length→Cg 11 (evZ (xC xs l) (Zu 11 xs ys xs.length)) (ys[l]?.getD 0):=fun l hl=>by
 refine (Kj xs ys (xC xs l) xs.length).trans ?_;have key: ∀i,i< xs.length→Cg 11 (kC xs i*evZ (xC xs l) (wC xs i)*ys[i]?.getD 0) (if i=l then ys[i]?.getD 0 else 0):=fun i hi=>by
  refine ((h.one i l hi hl).mul_right _).trans (Cg.of_eq ?_);split<;>omega
 rcases h.len with e|e
 ·rw [e] at hl key ⊢;have k0:=key 0 (by omega);have k1:=key 1 (by omega);simp [List.range_succ];rcases (show l=0∨l=1 by omega) with rfl|rfl
  ·simpa using Cg.add k0 k1
  ·simpa using Cg.add k0 k1
 ·rw [e] at hl key ⊢;have k0:=key 0 (by omega);have k1:=key 1 (by omega);have k2:=key 2 (by omega);simp [List.range_succ];rcases (show l=0∨l=1∨l=2 by omega) with rfl|rfl|rfl
  ·simpa using Cg.add k0 (Cg.add k1 k2)
  ·simpa using Cg.add k0 (Cg.add k1 k2)
  ·simpa using Cg.add k0 (Cg.add k1 k2)
theorem FL{xs:List Int}(h:Cu xs){c d:List Int}(hc:c.length=xs.length)(hd:d.length=xs.length)(bc: ∀y∈c,0≤y∧y< 11)(bd: ∀y∈d,0≤y∧y< 11)(hv: ∀l,l< xs.length→Cg 11 (evZ (xC xs l) c) (evZ (xC xs l) d)):c=d:=by
 have fin: ∀{a b:Int},Cg 11 a b→0≤a∧a< 11→0≤b∧b< 11→a=b:=fun {a b} h1 h2 h3=>by
  unfold Cg at h1;rw [Int.emod_eq_of_lt h2.1 h2.2,Int.emod_eq_of_lt h3.1 h3.2] at h1;exact h1
 rcases h.len with e|e
 ·rw [e] at hc hd hv
  match c,hc,d,hd with
  | [c0,c1],_, [d0,d1],_=>
   have hb:=h.back;rw [e] at hb;have b00:=hb 0 0 (by omega) (by omega);have b01:=hb 0 1 (by omega) (by omega);have b10:=hb 1 0 (by omega) (by omega);have b11:=hb 1 1 (by omega) (by omega);have v0:=hv 0 (by omega);have v1:=hv 1 (by omega);simp [List.range_succ] at b00 b01 b10 b11;generalize xC xs 0=x0 at *;generalize xC xs 1=x1 at *;generalize kC xs 0*(wC xs 0)[0]?.getD 0=m00 at *;generalize kC xs 1*(wC xs 1)[0]?.getD 0=m10 at *;generalize kC xs 0*(wC xs 0)[1]?.getD 0=m01 at *;generalize kC xs 1*(wC xs 1)[1]?.getD 0=m11 at *;have q: ∀m0 m1:Int,Cg 11 ((c0 - d0)*(m0+m1)+(c1 - d1)*(x0 ^ 1*m0+x1 ^ 1*m1)) 0:=fun m0 m1=>by
    have t0:Cg 11 (c0+x0*(c1+x0*0) - (d0+x0*(d1+x0*0))) 0:=by
     have:=Cg.sub v0 (Cg.refl 11 (evZ x0 [d0,d1]))
     exact this.trans (Cg.of_eq (by omega))
    have t1:Cg 11 (c0+x1*(c1+x1*0) - (d0+x1*(d1+x1*0))) 0:=by
     have:=Cg.sub v1 (Cg.refl 11 (evZ x1 [d0,d1]))
     exact this.trans (Cg.of_eq (by omega))
    have:=Cg.add (t0.mul_right m0) (t1.mul_right m1)
    exact (Cg.of_eq (by grind)).trans (this.trans (Cg.of_eq (by omega)))
   have r0:Cg 11 (c0 - d0) 0:=by
    have:=Cg.add (b00.mul_left (c0 - d0)) (b10.mul_left (c1 - d1))
    have h2:=(this.symm).trans (q m00 m10);exact (Cg.of_eq (by omega)).trans h2
   have r1:Cg 11 (c1 - d1) 0:=by
    have:=Cg.add (b01.mul_left (c0 - d0)) (b11.mul_left (c1 - d1))
    have h2:=(this.symm).trans (q m01 m11);exact (Cg.of_eq (by omega)).trans h2
   have z0:c0=d0:=fin ((Cg.of_eq (by omega)).trans ((Cg.add r0 (Cg.refl 11 d0)).trans (Cg.of_eq (by omega)))) (bc c0 (by simp)) (bd d0 (by simp));have z1:c1=d1:=fin ((Cg.of_eq (by omega)).trans ((Cg.add r1 (Cg.refl 11 d1)).trans (Cg.of_eq (by omega)))) (bc c1 (by simp)) (bd d1 (by simp));rw [z0,z1]
 ·rw [e] at hc hd hv
  match c,hc,d,hd with
  | [c0,c1,c2],_, [d0,d1,d2],_=>
   have hb:=h.back;rw [e] at hb;have b00:=hb 0 0 (by omega) (by omega);have b01:=hb 0 1 (by omega) (by omega);have b02:=hb 0 2 (by omega) (by omega);have b10:=hb 1 0 (by omega) (by omega);have b11:=hb 1 1 (by omega) (by omega);have b12:=hb 1 2 (by omega) (by omega);have b20:=hb 2 0 (by omega) (by omega);have b21:=hb 2 1 (by omega) (by omega);have b22:=hb 2 2 (by omega) (by omega);have v0:=hv 0 (by omega);have v1:=hv 1 (by omega);have v2:=hv 2 (by omega);simp [List.range_succ] at b00 b01 b02 b10 b11 b12 b20 b21 b22;generalize xC xs 0=x0 at *;generalize xC xs 1=x1 at *;generalize xC xs 2=x2 at *;generalize kC xs 0*(wC xs 0)[0]?.getD 0=m00 at *;generalize kC xs 1*(wC xs 1)[0]?.getD 0=m10 at *;generalize kC xs 2*(wC xs 2)[0]?.getD 0=m20 at *;generalize kC xs 0*(wC xs 0)[1]?.getD 0=m01 at *;generalize kC xs 1*(wC xs 1)[1]?.getD 0=m11 at *;generalize kC xs 2*(wC xs 2)[1]?.getD 0=m21 at *;generalize kC xs 0*(wC xs 0)[2]?.getD 0=m02 at *;generalize kC xs 1*(wC xs 1)[2]?.getD 0=m12 at *;generalize kC xs 2*(wC xs 2)[2]?.getD 0=m22 at *;have tt: ∀x:Int,Cg 11 (evZ x [c0,c1,c2]) (evZ x [d0,d1,d2])→Cg 11 ((c0 - d0)+(c1 - d1)*x+(c2 - d2)*x ^ 2) 0:=fun x v=>by
    have:=Cg.sub v (Cg.refl 11 (evZ x [d0,d1,d2]))
    refine (Cg.of_eq ?_).trans (this.trans (Cg.of_eq (by omega)));show _=c0+x*(c1+x*(c2+x*0)) - (d0+x*(d1+x*(d2+x*0)))
    grind
   have t0:=tt x0 v0;have t1:=tt x1 v1;have t2:=tt x2 v2;have q: ∀m0 m1 m2:Int,Cg 11 ((c0 - d0)*(m0+(m1+m2))+(c1 - d1)*(x0 ^ 1*m0+(x1 ^ 1*m1+x2 ^ 1*m2))+(c2 - d2)*(x0 ^ 2*m0+(x1 ^ 2*m1+x2 ^ 2*m2))) 0:=fun m0 m1 m2=>by
    have:=Cg.add (t0.mul_right m0) (Cg.add (t1.mul_right m1) (t2.mul_right m2))
    exact (Cg.of_eq (by grind)).trans (this.trans (Cg.of_eq (by omega)))
   have r0:Cg 11 (c0 - d0) 0:=by
    have:=Cg.add (Cg.add (b00.mul_left (c0 - d0)) (b10.mul_left (c1 - d1))) (b20.mul_left (c2 - d2))
    exact (Cg.of_eq (by omega)).trans (this.symm.trans (q m00 m10 m20))
   have r1:Cg 11 (c1 - d1) 0:=by
    have:=Cg.add (Cg.add (b01.mul_left (c0 - d0)) (b11.mul_left (c1 - d1))) (b21.mul_left (c2 - d2))
    exact (Cg.of_eq (by omega)).trans (this.symm.trans (q m01 m11 m21))
   have r2:Cg 11 (c2 - d2) 0:=by
    have:=Cg.add (Cg.add (b02.mul_left (c0 - d0)) (b12.mul_left (c1 - d1))) (b22.mul_left (c2 - d2))
    exact (Cg.of_eq (by omega)).trans (this.symm.trans (q m02 m12 m22))
   have z0:c0=d0:=fin ((Cg.of_eq (by omega)).trans ((Cg.add r0 (Cg.refl 11 d0)).trans (Cg.of_eq (by omega)))) (bc c0 (by simp)) (bd d0 (by simp));have z1:c1=d1:=fin ((Cg.of_eq (by omega)).trans ((Cg.add r1 (Cg.refl 11 d1)).trans (Cg.of_eq (by omega)))) (bc c1 (by simp)) (bd d1 (by simp));have z2:c2=d2:=fin ((Cg.of_eq (by omega)).trans ((Cg.add r2 (Cg.refl 11 d2)).trans (Cg.of_eq (by omega)))) (bc c2 (by simp)) (bd d2 (by simp));rw [z0,z1,z2]
end
section
open Go Go.RowKit Go.Shelf
theorem OM:(Tryz.prog.info? 103).map (fun i=>(i.zero,i.size,i.bytes))=some (some (.slice none 0 0),1,24):=by kernel_rfl
theorem Pj:zM prog 105 103 1 24:=zM.mk' (by decide) Tryz.underlying105 OM rfl
def LO(x q:Int)(dr:Nat→Int)(t k:Nat):List (List Int):=chk t (Xf x q dr (t*t - 1) k) t
def CU(l:List (Int×Int))(q:Int)(dr:Nat→Int)(t k s:Nat):List (List Int):=LO (l[s]?.getD (0,0)).1 q dr t (k+s*(2*(t*t - 1)))
def CV(l:List (Int×Int))(q:Int)(dr:Nat→Int)(t k s:Nat):List (List Int):=LO (l[s]?.getD (0,0)).2 q dr t (k+s*(2*(t*t - 1))+(t*t - 1))
def xA(l:List (Int×Int))(q:Int)(dr:Nat→Int)(t k n:Nat):List (List (List Int)):=(List.range n).map (CU l q dr t k)
def xB(l:List (Int×Int))(q:Int)(dr:Nat→Int)(t k n:Nat):List (List (List Int)):=(List.range n).map (CV l q dr t k)
theorem Lb{α:Type}(f:Nat→α)(n:Nat):(List.range (n+1)).map f=(List.range n).map f++ [f n]:=by simp [List.range_succ]
def Hs(q:Int)(F B:List (List (List Int)))(t:Nat)(j:Int)(s:Nat):List (Int×Int):=LS (Tx q (F[s]?.getD []) j) (Tx q (B[s]?.getD []) j) t
def GS(q:Int)(F B:List (List (List Int)))(t:Nat)(j:Int)(s:Nat):List (Int×Int):=LS (TR q (F[s]?.getD []) j) (TR q (B[s]?.getD []) j) t
def Uo(q:Int)(F B:List (List (List Int)))(t:Nat)(j:Int):List (List (Int×Int)):=(List.range F.length).map (Hs q F B t j)
def UR(q:Int)(F B:List (List (List Int)))(t:Nat)(j:Int):List (List (Int×Int)):=(List.range F.length).map (GS q F B t j)
def SqL(t:Nat)(M:List (List Int)):Prop:=M.length=t∧ ∀c∈M,c.length=t
theorem Oi(x q:Int)(dr:Nat→Int)(t k:Nat)(ht:1≤t):SqL t (LO x q dr t k):=by
 refine ⟨zI _ _ _,fun c hc=> ?_⟩;obtain ⟨i,hi,rfl⟩:=List.mem_map.1 hc;have hi2:i< t:=List.mem_range.1 hi;have h1:(i+1)*t≤t*t:=Nat.mul_le_mul_right _ hi2;have h2:1*1≤t*t:=Nat.mul_le_mul ht ht;rw [Nat.add_mul,Nat.one_mul] at h1;rw [lLt,List.length_drop,xx];omega
theorem Jj(l:List (Int×Int))(q:Int)(dr:Nat→Int)(t k n:Nat)(ht:1≤t): ∀M∈xA l q dr t k n,SqL t M:=fun M hM=>by
 obtain ⟨i,_,rfl⟩:=List.mem_map.1 hM;exact Oi _ _ _ _ _ ht
theorem Jk(l:List (Int×Int))(q:Int)(dr:Nat→Int)(t k n:Nat)(ht:1≤t): ∀M∈xB l q dr t k n,SqL t M:=fun M hM=>by
 obtain ⟨i,_,rfl⟩:=List.mem_map.1 hM;exact Oi _ _ _ _ _ ht
theorem TH(t:Nat): ∀(M:List (List Int)) (n:Nat),(∀c∈M,c.length=t)→M.foldl (fun n c=>max n c.length) n=if M= [] then n else max n t
 | [],n,_=>rfl
 |c::M,n,h=>by
  rw [List.foldl_cons,TH t M _ (fun c hc=>h c (mCm _ hc)),h c mCs];split<;>simp
theorem IS{t:Nat}{M:List (List Int)}(h:SqL t M):yH M=t:=by
 unfold yH;rw [TH t M 0 h.2];obtain ⟨h1,_⟩:=h;split
 ·rename_i e;rw [e] at h1;exact h1
 ·omega
theorem Nw{t:Nat}{M:List (List Int)}(h:SqL t M)(q x:Int):(Tx q M x).length=t:=by simp [Tx,IS h]
theorem NW{t:Nat}{M:List (List Int)}(h:SqL t M)(q x:Int):(TR q M x).length=t:=by simp [TR,h.1]
def LP{α:Type}(E:Enc α)(ty tE:TypeId)(w4:World)(Bd lo hi:Nat)(cs:Array Value)(vW vB vy vz:Value)(xs ys:List α)(y z:α):Lt where
 C vs w:=w4.grownBy w (some Bd)∧Bk w Bd ty cs∧hi≤w.heap.size∧E.rep (fun g=>lo≤g∧g< hi) w [vy] y∧E.rep (fun g=>lo≤g∧g< hi) w [vz] z∧match vs with
  | []=>Zj E E w4.heap.size tE tE (fun g=>w4.heap.size≤g) w vW vB xs ys
  | [u]=>Zj E E w4.heap.size tE tE (fun g=>w4.heap.size≤g) w u vB (xs++ [y]) ys∧ ∀g,u.ownBlock=some g→g< lo∨hi≤g
  | [u,u2]=>Zj E E w4.heap.size tE tE (fun g=>w4.heap.size≤g) w u u2 (xs++ [y]) (ys++ [z])
  |_=>False
 R q w w':=w.grownBy w' (if q=0 then vW.ownBlock else vB.ownBlock)
 g:=fun {vs w w'} h hg=>by
  obtain ⟨h1,h2,h3,h4,h5,h6⟩:=h;refine ⟨h1.trans (hg.but _),h2.grown hg (by simp),nLT h3 hg.size,E.keep h4 hg (by simp),E.keep h5 hg (by simp), ?_⟩
  match vs,h6 with
  | [],h6=>exact h6.kept hg
  | [u],h6=>exact ⟨h6.1.kept hg,h6.2⟩
  | [u,u2],h6=>exact h6.kept hg
def twQ{α:Type}{E:Enc α}{ty tE:TypeId}{w4:World}{Bd lo hi:Nat}{cs:Array Value}{vW vB vy vz:Value}{xs ys:List α}{y z:α}(hW: ∀g,vW.ownBlock=some g→g< lo)(hB: ∀g,vB.ownBlock=some g→g< lo)(t:TypeId)(u:Value):Qv (LP E ty tE w4 Bd lo hi cs vW vB vy vz xs ys y z) where
 p _ v w:=BU lo t u v w
 fr:=0
 st:=fun ⟨b,e,hb,hk⟩ hg=>⟨b,e,hb,hk.grown hg (by simp)⟩
 sr:=fun {vs _ v w w'} _ _ hR ⟨b,e,hb,hk⟩=>by
  refine ⟨b,e,hb,hk.grown hR fun e=> ?_⟩;split at e
  ·have:=hW b e.symm;omega
  ·have:=hB b e.symm;omega
section
variable {α:Type} {E:Enc α} {ty tE:TypeId} {w4 w' w3:World} {Bd lo hi:Nat} {cs:Array Value} {vW vB vy vz u v3:Value} {xs ys:List α} {y z:α}
theorem Hb(hC:(LP E ty tE w4 Bd lo hi cs vW vB vy vz xs ys y z).C [] w')(ha:Acc E w4.heap.size tE (fun g=>w4.heap.size≤g∧some g≠vB.ownBlock) w3 v3 (xs++ [y]))(hgr:w'.grownBy w3 vW.ownBlock)(hm:Zr w' vW v3)(hW: ∀g,vW.ownBlock=some g→g< lo)(hd:Bd< w4.heap.size):(LP E ty tE w4 Bd lo hi cs vW vB vy vz xs ys y z).C [v3] w3:=by
 obtain ⟨h1,h2,h3,h4,h5,h6⟩:=hC;have hS:Zj E E w4.heap.size tE tE (fun g=>w4.heap.size≤g) w' vW vB xs ys:=h6;refine ⟨h1.andThen hgr (fun j e=> .inl (hS.fst.lt j e).1),h2.grown hgr (fun e=>by have:=(hS.fst.lt _ e.symm).1;omega),nLT h3 hgr.size,E.keep h4 hgr (fun g hg e=>by have:=hW g e.symm;omega),E.keep h5 hgr (fun g hg e=>by have:=hW g e.symm;omega),hS.one ha hgr hm,fun g e=> ?_⟩;rcases hm with h|⟨n,hn,h⟩
 ·exact .inl (hW g (h ▸ e))
 ·rw [h] at e;injection e with e
  exact .inr (by omega)
theorem Ha(hC:(LP E ty tE w4 Bd lo hi cs vW vB vy vz xs ys y z).C [u] w')(ha:Acc E w4.heap.size tE (fun g=>w4.heap.size≤g∧some g≠u.ownBlock) w3 v3 (ys++ [z]))(hgr:w'.grownBy w3 vB.ownBlock)(hm:Zr w' vB v3)(hB: ∀g,vB.ownBlock=some g→g< lo)(hd:Bd< w4.heap.size):(LP E ty tE w4 Bd lo hi cs vW vB vy vz xs ys y z).C [u,v3] w3:=by
 obtain ⟨h1,h2,h3,h4,h5,h6⟩:=hC;have hS:Zj E E w4.heap.size tE tE (fun g=>w4.heap.size≤g) w' u vB (xs++ [y]) ys:=h6.1;exact ⟨h1.andThen hgr (fun j e=> .inl (hS.snd.lt j e).1),h2.grown hgr (fun e=>by have:=(hS.snd.lt _ e.symm).1;omega),nLT h3 hgr.size,E.keep h4 hgr (fun g hg e=>by have:=hB g e.symm;omega),E.keep h5 hgr (fun g hg e=>by have:=hB g e.symm;omega),hS.two ha hgr hm⟩
theorem Kd(hC:(LP E ty tE w4 Bd lo hi cs vW vB vy vz xs ys y z).C [] w')(hW: ∀g,vW.ownBlock=some g→g< lo)(hB: ∀g,vB.ownBlock=some g→g< lo)(hl:w4.heap.size≤lo):E.rep (fun g=>(w4.heap.size≤g∧some g≠vB.ownBlock)∧some g≠vW.ownBlock) w' [vy] y:=
 E.more hC.2.2.2.1 fun g _ hg=>⟨⟨by omega,fun e=>by have:=hB g e.symm;omega⟩,fun e=>by have:=hW g e.symm;omega⟩
theorem Kc(hC:(LP E ty tE w4 Bd lo hi cs vW vB vy vz xs ys y z).C [u] w')(hB: ∀g,vB.ownBlock=some g→g< lo)(hl:w4.heap.size≤lo):E.rep (fun g=>(w4.heap.size≤g∧some g≠u.ownBlock)∧some g≠vB.ownBlock) w' [vz] z:=
 E.more hC.2.2.2.2.1 fun g _ hg=>⟨⟨by omega,fun e=>by have:=hC.2.2.2.2.2.2 g e.symm;omega⟩,fun e=>by have:=hB g e.symm;omega⟩
theorem Hc{t':TypeId}{a:Value}{u2:Value}(hC:(LP E t' tE w4 Bd lo hi #[a,vW,vB] vW vB vy vz xs ys y z).C [u,u2] w')(hd:Bd< w4.heap.size):Bk ((w'.setCell ⟨Bd,1,none⟩ u).setCell ⟨Bd,2,none⟩ u2) Bd t' #[a,u,u2]∧Zj E E w4.heap.size tE tE (fun g=>w4.heap.size≤g) ((w'.setCell ⟨Bd,1,none⟩ u).setCell ⟨Bd,2,none⟩ u2) u u2 (xs++ [y]) (ys++ [z])∧w4.grownBy ((w'.setCell ⟨Bd,1,none⟩ u).setCell ⟨Bd,2,none⟩ u2) (some Bd):=by
 obtain ⟨h1,h2,_,_,_,h6⟩:=hC;have hS:Zj E E w4.heap.size tE tE (fun g=>w4.heap.size≤g) w' u u2 (xs++ [y]) (ys++ [z]):=h6;exact ⟨(h2.set 1 u).set 2 u2,(hS.keep (zo w' Bd 1 u) (fun g hg e=>by injection e with e;omega)).keep (zo _ Bd 2 u2) (fun g hg e=>by injection e with e;omega),(h1.andThen (zo w' Bd 1 u) (fun j e=> .inr e)).andThen (zo _ Bd 2 u2) (fun j e=> .inr e)⟩
end
def AG(N:Nat)(yr:List (Int×Int)):Pv:=⟨fun v W=> ∃A n c b,v= .slice (some ⟨b,0,none⟩) 1 1∧Bk W b 72 #[.slice A n c]∧Sl zq (fun g=>N≤g) W (.slice A n c) yr,fun ⟨A,n,c,b,e,h1,h2⟩ hg=>⟨A,n,c,b,e,h1.grown hg (by simp),h2.kept hg⟩⟩
def slP(N:Nat)(yr:List (Int×Int)):Pv:=⟨fun v W=>Sl zq (fun g=>N≤g) W v yr,fun h hg=>h.kept hg⟩
def slU(yr:List Int):Pv:=⟨fun v W=>Sl ze TT W v yr,fun h hg=>h.kept hg⟩
theorem Qy{fn:Func}{W:World}{B8:Nat}{a b c:Value}(h:fn.results= #[.cell 8 107, .tmp 9])(tmps:Array Value)(h8:tmps.getD 8 undef= .pointer (some ⟨B8,0,none⟩))(h9:tmps.getD 9 undef= .int .i64 0)(hb:Bk W B8 107 #[a,b,c]):(results fn tmps).run prog W= .ok (.tuple #[.agg #[a,b,c], .int .i64 0]) W:=by
 have r1:=run_loadVar_row (P:=prog) W B8 107 107 #[a,b,c] (0,0) _ hb Tryz.underlying107 rfl (by kernel_rfl);have h8':tmps[8]?.getD undef= .pointer (some ⟨B8,0,none⟩):=by simpa using h8
 have h9':tmps[9]?.getD undef= .int .i64 0:=by simpa using h9
 simp [results,h,h8',h9',asAddr,r1]
end
section
open Go Go.RowKit
structure Vu (q:Int) (t S:Nat) (F B:List (List (List Int))):Prop where
 f:F.length=S∧ ∀M∈F,Sq t M
 b:B.length=S∧ ∀M∈B,Sq t M
section
variable {q:Int} {t S:Nat} {F B:List (List (List Int))}
theorem Vu.atF(h:Vu q t S F B){s:Nat}(hs:s< S): ∃M,F[s]? =some M∧Sq t M:=by
 have hl:s< F.length:=by rw [h.f.1];exact hs
 exact ⟨F[s],List.getElem?_eq_getElem hl,h.f.2 _ (lGm hl)⟩
theorem Vu.atB(h:Vu q t S F B){s:Nat}(hs:s< S): ∃M,B[s]? =some M∧Sq t M:=by
 have hl:s< B.length:=by rw [h.b.1];exact hs
 exact ⟨B[s],List.getElem?_eq_getElem hl,h.b.2 _ (lGm hl)⟩
end
section
variable {p:Par} {t S:Nat} {F B:List (List (List Int))}
theorem Nl{x q:Int}{dr:Nat→Int}{t k:Nat}(ht:1≤t)(hq:0< q)(hd: ∀k,0≤dr k):Sq t (LO x q dr t k):=by
 obtain ⟨h1,h2⟩:=Oi x q dr t k ht;refine ⟨h1,fun r hr=>⟨h2 r hr,fun y hy=> ?_⟩⟩;obtain ⟨i,_,rfl⟩:=List.mem_map.1 hr;have hy2:y∈Xf x q dr (t*t - 1) k:=List.mem_of_mem_drop (mMt hy);simp only [Xf,List.mem_cons,List.mem_map] at hy2;rcases hy2 with rfl|⟨j,_,rfl⟩
 ·exact Int.emod_nonneg _ (by omega)
 ·exact hd _
theorem QQ{l:List (Int×Int)}{q:Int}{dr:Nat→Int}{t k n:Nat}(ht:1≤t)(hq:0< q)(hd: ∀k,0≤dr k):Vu q t n (xA l q dr t k n) (xB l q dr t k n):=by
 refine ⟨⟨by simp [xA],fun M hM=> ?_⟩,⟨by simp [xB],fun M hM=> ?_⟩⟩
 ·obtain ⟨i,_,rfl⟩:=List.mem_map.1 hM;exact Nl ht hq hd
 ·obtain ⟨i,_,rfl⟩:=List.mem_map.1 hM;exact Nl ht hq hd
end
section
variable {p:Par} {t S:Nat} {F B:List (List (List Int))}
end
def DA(l:List Int)(s:Nat):Int:=if 0< l.length then l[s%l.length]?.getD 0 else (s:Int)
def FX(l:List Int)(n:Nat):List Int:=(List.range n).map (DA l)
end
section
open Go Go.RowKit Go.Shelf
theorem FJ{pa:Option Addr}{g:Nat}{dr:Nat→Int}{TI:Nat→World→Prop}{bl:Nat→Prop}{most:Nat}(p:Par)(hT:TpP pa g p.Q dr TI bl most)(x:Int)(t k:Nat)(w:World)(hx:U64 x)(hq:U64 p.Q)(hq0:0< p.Q)(ht:(t:Int)=p.T+1)(h2:t=2∨t=3)(hk:k+(t*t - 1)≤most)(hI:TI k w):
  Calls prog 101 #[p.v, .int .u64 x, .func (.func 98) #[.pointer pa] #[]] w fun e w'=> ∃v,e= .returned v∧Sl (zh ze) (fun b=>w.heap.size≤b) w' v (LO x p.Q dr t k)∧TI (k+(t*t - 1)) w'∧w.grownBy w' (some g):=by
 rcases h2 with rfl|rfl
 ·exact IZ p hT x k w hx hq hq0 (by omega) hk hI
 ·exact IY p hT x k w hx hq hq0 (by omega) hk hI
theorem JP(p:Par)(vl:Value)(l:List (Int×Int))(n:Nat)(X:Nat→Prop)(w:World){pa:Option Addr}{g:Nat}{dr:Nat→Int}{TI:Nat→World→Prop}{bl:Nat→Prop}{v0:Nat}(hT:TpP pa g p.Q dr TI bl v0)(hp:p.ok)(hm:Zv p=true)(H1:ye w)(h:Sl zq X w vl l)(hX: ∀b,X b→b≠g)(hl:(l.length:Int)=zU p)(hn:1≤n∧n≤7)(k0 t:Nat)(ht:(t:Int)=p.T+1)(hI:TI k0 w)(n0:k0+l.length*(2*(t*t - 1))≤v0):
  Calls prog 46 #[p.v,vl, .int .i64 n, .pointer pa] w fun e w'=> ∃vm vr vc,e= .returned (.tuple #[.agg #[vm,vr,vc], .int .i64 0])∧Sl (zh (zh ze)) (fun b=>w.heap.size≤b) w' vm (Ep p (xA l p.Q dr t k0 l.length) (xB l p.Q dr t k0 l.length))∧Sl (zh (zh zq)) (fun b=>w.heap.size≤b) w' vr ((List.range n).map fun j:Nat=>Uo p.Q (xA l p.Q dr t k0 l.length) (xB l p.Q dr t k0 l.length) t ((j:Int)+1))∧Sl (zh (zh zq)) (fun b=>w.heap.size≤b) w' vc ((List.range n).map fun j:Nat=>UR p.Q (xA l p.Q dr t k0 l.length) (xB l p.Q dr t k0 l.length) t ((j:Int)+1))∧TI (k0+l.length*(2*(t*t - 1))) w'∧w.grownBy w' (some g):=by
 have HT:=za hT;have HP:=za hp;have HX:=za hX;obtain ⟨hq,_,_,n1,n2,n3,t1,t2,t3,hs,kk1,dd1⟩:=zx hm;have J2:=YR hs;have HQ:Hid (U64 p.Q∧0< p.Q):=za ⟨hp.Q,VX hq⟩;have S2:l.length≤10:=by omega
 have u1:t=2∨t=3:=by omega
 have b0:=za u1;obtain ⟨T4,S4⟩:=hn;obtain ⟨dd,K2⟩:=exq (t*t - 1);rw [←K2] at n0 ⊢;have g3:=za K2;obtain ⟨A,c,rfl,i4,U4⟩:=h.form;have F3:g< w.heap.size:=hT.old hI hT.own;have I4:=za F3;have y2:Hid (∀b,bl b→b< w.heap.size):=za (fun b hb=>hT.old hI hb);obtain ⟨w0,s1⟩:=exq ((w.alloc (Obj.cells p.cells 39)).alloc (Obj.cells #[.slice none 0 0, .slice none 0 0, .slice none 0 0] 107));have B2:Hid (w.grownBy w0 none):=za (by rw [s1];exact UG);have o3:Hid (Bk w0 w.heap.size 39 p.cells):=za (by rw [s1];exact (Bk.new w _ _).alloc _);have t4:Hid (Bk w0 (w.heap.size+1) 107 #[.slice none 0 0, .slice none 0 0, .slice none 0 0]):=za (by
  rw [s1];have h:=Bk.new (w.alloc (Obj.cells p.cells 39)) 107 #[.slice none 0 0, .slice none 0 0, .slice none 0 0];rw [World.size_alloc] at h;exact h)
 have H4:Hid (TI k0 w0):=za (hT.keep hI B2.z (by simp));have e2:=za (fun (w':World) (hg:w0.grownBy w' none)=>OI p w' hp (H1.kept (B2.z.trans hg)));rw [hm] at e2;have v4:=za hm;have V0:=za (VG p);rw [←hl] at V0;have HL:=za (h.kept B2.z);have o4:=za ht;have E2:=za n0;clear hT hp hX hq n1 n2 n3 t1 t2 t3 hs kk1 dd1 J2 hm H1 h hI ht n0 hl F3 K2 u1;go_enter func46,ntmps46;go_wp2_with fail;rw [←s1];have b4:=o3.z.prule;clear s1;go_wp2_with fail;refine (e2.z _ gRf).mono ?_;rintro e w1 ⟨rfl,hg⟩;have J4:Hid (w0.grownBy w1 none):=za hg;have a4:=(o3.z.grown hg (by simp)).prule;clear hg b4 e2;go_wp2_with fail;refine (V0.z _).mono ?_;rintro e w2 ⟨rfl,hg⟩;have Z1:Hid (w0.grownBy w2 none):=za (J4.z.trans hg);clear hg a4 V0;have f4: ¬((n:Int)>7):=by omega
 have g4: ¬((n:Int)< 1):=by omega
 go_upto_region 5 with (fail)
 have N4:Hid (Bk w2 w.heap.size 39 p.cells):=za (o3.z.grown Z1.z (by simp));have L3:Hid (Bk w2 (w.heap.size+1) 107 #[.slice none 0 0, .slice none 0 0, .slice none 0 0]):=za (t4.z.grown Z1.z (by simp));have G4:Hid (TI k0 w2):=za (HT.z.keep H4.z Z1.z (by simp));have I0:Hid (w.heap.size+1< w2.heap.size∧g< w.heap.size):=za ⟨L3.z.lt,I4.z⟩;have S1:Hid (∀wx,w2.grownBy wx (some g)→Bk wx w.heap.size 39 p.cells):=za (fun wx hg=>N4.z.grown hg (fun e=>by injection e with e;have:=I0.z.2;omega));have a3:Hid (∀wx,w2.grownBy wx (some g)→Sl zq X wx (.slice A l.length c) l):=za (fun wx hg=>(HL.z.kept Z1.z).keep hg (fun b hb e=>HX.z b hb (by injection e with e)));have V2:Hid (∀(x:Int) (k:Nat) (wx:World),U64 x→k+dd≤v0→TI k wx→Calls prog 101 #[p.v, .int .u64 x, .func (.func 98) #[.pointer pa] #[]] wx fun e w'=> ∃v,e= .returned v∧Sl (zh ze) (fun b=>wx.heap.size≤b) w' v (LO x p.Q dr t k)∧TI (k+dd) w'∧wx.grownBy w' (some g)):=za (fun x k wx hx hk hi=>by
  rw [g3.z] at hk ⊢;exact FJ p HT.z x t k wx hx HQ.z.1 HQ.z.2 o4.z b0.z hk hi)
 obtain ⟨L,R2⟩:=exq (l.length);have Q3:=za R2;rw [←R2] at S2 i4 E2 a3 ⊢;clear R2;go_loopg [10,11,40] L (fun gk s10 s11 s40 wx=> ∃s:Nat,s+gk=L∧s40= .int .i64 s∧Hid (Zj (zh (zh ze)) (zh (zh ze)) w2.heap.size 43 43 (fun b=>w2.heap.size≤b) wx s10 s11 (xA l p.Q dr t k0 s) (xB l p.Q dr t k0 s)∧TI (k0+s*(2*dd)) wx∧w2.grownBy wx (some g)))
 case atStart=>exact ⟨0,by omega,rfl,za ⟨⟨Acc.nil _ _ _ _ _,Acc.nil _ _ _ _ _⟩,by simpa using G4.z,gRr _ _⟩⟩
 case round=>
  obtain ⟨s,Q4,rfl,k2⟩:=hrel;have o0:=za k2.z.1;have A2:=za k2.z.2.1;have N0:=za k2.z.2.2;clear k2;have q3:=(S1.z _ N0.z).prule;cases gk with
  |zero=>
   have eL:L=s:=by omega
   subst eL;have R4: ¬((L:Int)< (L:Int)):=by omega
   obtain ⟨F,hF⟩:=exq (xA l p.Q dr t k0 L);obtain ⟨R,hR⟩:=exq (xB l p.Q dr t k0 L);rw [←hF, ←hR] at o0;have O0:Hid (F.length=L∧R.length=L):=za (by rw [hF,hR];simp [xA,xB]);have j1:Hid ((∀M∈F,SqL t M)∧(∀M∈R,SqL t M)):=za (by rw [hF,hR];exact ⟨Jj _ _ _ _ _ _ (by have:=b0.z;omega),Jk _ _ _ _ _ _ (by have:=b0.z;omega)⟩);have L4:=za hF;have s4:=za hR;obtain ⟨AF,cF,eF,_,_⟩:=o0.z.fst.sl.form;obtain ⟨AR,cR,eR,_,_⟩:=o0.z.snd.sl.form;rw [O0.z.1] at eF;rw [O0.z.2] at eR;subst eF eR;have P3:=za (callsIn_wide.1<|Ji 6 (nRf _) p (.slice AF L cF) (.slice AR L cR) F R TT wr HP.z (o0.z.fst.sl.more fun _ _ _=>trivial) (o0.z.snd.sl.more fun _ _ _=>trivial) (by rw [O0.z.1];omega) (by rw [O0.z.2];omega) (fun M hM=>⟨by rw [(j1.z.1 M hM).1];have:=b0.z;omega,fun c hc=>by rw [(j1.z.1 M hM).2 c hc];have:=b0.z;omega⟩) (fun M hM=>⟨by rw [(j1.z.2 M hM).1];have:=b0.z;omega,fun c hc=>by rw [(j1.z.2 M hM).2 c hc];have:=b0.z;omega⟩));clear hF hR V2 a3 E2;go_wp2_with fail;refine P3.z.mono ?_;rintro e w3 ⟨vm,rfl,hsm,hgm⟩;obtain ⟨Am,nm,cm,rfl⟩:=hsm.shape;obtain ⟨w4,i1⟩:=exq (w3.alloc (Obj.cells #[.slice Am nm cm, .slice none 0 0, .slice none 0 0] 107));obtain ⟨Bd,J1⟩:=exq (w3.heap.size);have t0:Hid (wr.grownBy w4 none):=za (by rw [i1];exact hgm.trans (gAl _ _ none));have e3:Hid (Bk w4 Bd 107 #[.slice Am nm cm, .slice none 0 0, .slice none 0 0]):=za (by rw [i1,J1];exact Bk.new _ _ _);have l0:Hid (w4.heap.size=Bd+1∧wr.heap.size≤Bd∧w2.heap.size≤wr.heap.size):=za (by rw [i1,J1,World.size_alloc];exact ⟨rfl,hgm.size,N0.z.size⟩)
   have J3:Hid (Sl (zh (zh ze)) (fun b=>w2.heap.size≤b∧b< Bd) w4 (.slice Am nm cm) (Ep p F R)):=za (by
    rw [i1,J1];exact (hsm.bounded.kept (gAl _ _ none)).more fun b _ hb=>⟨nLT N0.z.size hb.1,hb.2⟩)
   have U3:Hid (Sl (zh (zh ze)) (fun b=>b< Bd) w4 (.slice AF L cF) F):=za ((o0.z.fst.sl.bounded.kept t0.z).more fun b _ hb=>nLl hb.2 l0.z.2.1);have K3:Hid (Sl (zh (zh ze)) (fun b=>b< Bd) w4 (.slice AR L cR) R):=za ((o0.z.snd.sl.bounded.kept t0.z).more fun b _ hb=>nLl hb.2 l0.z.2.1);have b3:Hid (TI (k0+L*(2*dd)) w4):=za (HT.z.keep A2.z t0.z (by simp));have Y1:Hid (w2.grownBy w4 (some g)):=za (N0.z.trans (t0.z.but _));have u4:Hid (∀wx,w4.grownBy wx (some Bd)→Bk wx w.heap.size 39 p.cells):=za (fun wx hg=>(S1.z _ Y1.z).grown hg (fun e=>by injection e with e;have:=I0.z;have:=l0.z;omega));have K4:Hid (∀wx,w4.grownBy wx (some Bd)→Sl (zh (zh ze)) (fun b=>b< Bd) wx (.slice AF L cF) F):=za (fun wx hg=>U3.z.keep hg (fun b hb e=>by injection e with e;omega));have r4:Hid (∀wx,w4.grownBy wx (some Bd)→Sl (zh (zh ze)) (fun b=>b< Bd) wx (.slice AR L cR) R):=za (fun wx hg=>K3.z.keep hg (fun b hb e=>by injection e with e;omega));have I3:Hid (∃vr vc,Bk w4 Bd 107 #[.slice Am nm cm,vr,vc]∧Zj (zh (zh zq)) (zh (zh zq)) w4.heap.size 103 103 (fun b=>w4.heap.size≤b) w4 vr vc ((List.range 0).map fun k:Nat=>Uo p.Q F R t ((k:Int)+1)) ((List.range 0).map fun k:Nat=>UR p.Q F R t ((k:Int)+1))∧w4.grownBy w4 (some Bd)):=za ⟨_,_,e3.z,⟨Acc.nil _ _ _ _ _,Acc.nil _ _ _ _ _⟩,gRr _ _⟩;clear hsm hgm P3 o0 U3 K3 A2 e3 t0 S1 N0;go_upto_region 12 with (fail)
   rw [←i1, ←J1];clear i1 J1 q3;go_loopg [15] n (fun gk s15 wx=> ∃j:Nat,j+gk=n∧s15= .int .u64 ((j:Int)+1)∧Hid (∃vr vc,Bk wx Bd 107 #[.slice Am nm cm,vr,vc]∧Zj (zh (zh zq)) (zh (zh zq)) w4.heap.size 103 103 (fun b=>w4.heap.size≤b) wx vr vc ((List.range j).map fun k:Nat=>Uo p.Q F R t ((k:Int)+1)) ((List.range j).map fun k:Nat=>UR p.Q F R t ((k:Int)+1))∧w4.grownBy wx (some Bd)))
   case atStart=>exact ⟨0,by omega,rfl,I3⟩
   case round=>
    rename World=>wj
    obtain ⟨j,Y4,rfl,Y3⟩:=hrel;obtain ⟨vr,vc,z3,p3,r3⟩:=Y3.z;have p1:=za z3;have u0:=za p3;have M0:=za r3;clear z3 p3 r3 Y3 I3;obtain ⟨Ar1,nr1,cr1,rfl⟩:=u0.z.fst.sl.shape;obtain ⟨Ac1,nc1,cc1,rfl⟩:=u0.z.snd.sl.shape;have O4:IntKind.u64.wrap (n:Int)=(n:Int):=IntWalk.u64_in _ (by omega);cases gk with
    |zero=>
     obtain rfl:j=n:=by omega
     have d4: ¬((j:Int)+1≤(j:Int)):=by omega
     have W0:Hid (w2.grownBy wj (some g)):=za (Y1.z.andThen M0.z (fun b e=> .inl (by injection e with e;have:=l0.z;omega)));have l1:Hid (Bk wj (w.heap.size+1) 107 #[.slice none 0 0, .slice none 0 0, .slice none 0 0]):=za (L3.z.grown W0.z (fun e=>by injection e with e;have:=I0.z;omega));have c0:=p1.z.cell 0;have c1:=p1.z.cell 1;have c2:=p1.z.cell 2;have r0:=l1.z.cell 0;have r1:=l1.z.cell 1;have r2:=l1.z.cell 2;have f8:=l1.z.free;simp at c0 c1 c2 r0 r1 r2;obtain ⟨wF,G2⟩:=exq (((wj.setCell ⟨w.heap.size+1,0,none⟩ (.slice Am nm cm)).setCell ⟨w.heap.size+1,1,none⟩ (.slice Ar1 nr1 cr1)).setCell ⟨w.heap.size+1,2,none⟩ (.slice Ac1 nc1 cc1));have M4:Hid (Bk wF (w.heap.size+1) 107 #[.slice Am nm cm, .slice Ar1 nr1 cr1, .slice Ac1 nc1 cc1]):=za (by rw [G2];exact ((l1.z.set 0 _).set 1 _).set 2 _);have o1:Hid (wj.grownBy wF (some (w.heap.size+1))):=za (by rw [G2];exact ((zo wj (w.heap.size+1) 0 _).trans (zo _ (w.heap.size+1) 1 _)).trans (zo _ (w.heap.size+1) 2 _));have g0:Hid (Sl (zh (zh ze)) (fun b=>w.heap.size≤b) wF (.slice Am nm cm) (Ep p (xA l p.Q dr t k0 L) (xB l p.Q dr t k0 L))∧Sl (zh (zh zq)) (fun b=>w.heap.size≤b) wF (.slice Ar1 nr1 cr1) ((List.range j).map fun k:Nat=>Uo p.Q (xA l p.Q dr t k0 L) (xB l p.Q dr t k0 L) t ((k:Int)+1))∧Sl (zh (zh zq)) (fun b=>w.heap.size≤b) wF (.slice Ac1 nc1 cc1) ((List.range j).map fun k:Nat=>UR p.Q (xA l p.Q dr t k0 L) (xB l p.Q dr t k0 L) t ((k:Int)+1))∧TI (k0+L*(2*dd)) wF∧w.grownBy wF (some g)):=za (by
      rw [←L4.z, ←s4.z];have h2:=I0.z;have h4:=l0.z;refine ⟨?_, ?_, ?_, ?_, ?_⟩
      ·exact ((J3.z.keep M0.z (fun b hb e=>by injection e with e;omega)).keep o1.z (fun b hb e=>by injection e with e;omega)).more fun b _ hb=>by have:=hb.1;omega
      ·exact (u0.z.fst.sl.keep o1.z (fun b hb e=>by injection e with e;have:=hb.1;omega)).more fun b _ hb=>by have:=hb.1;omega
      ·exact (u0.z.snd.sl.keep o1.z (fun b hb e=>by injection e with e;have:=hb.1;omega)).more fun b _ hb=>by have:=hb.1;omega
      ·exact HT.z.keep (HT.z.keep b3.z M0.z (fun b e hb=>by injection e with e;have:=y2.z b hb;omega)) o1.z (fun b e hb=>by injection e with e;have:=y2.z b hb;omega)
      ·exact (((B2.z.trans Z1.z).but _).trans W0.z).andThen o1.z (fun b e=> .inl (by injection e with e;omega)))
     clear p1 u0 W0 l1 o1 J3;go_wp2_with fail;rw [←G2];refine ⟨rfl,_,Qy rfl _ rfl rfl M4.z, ?_⟩;refine ⟨_,_,_,rfl, ?_⟩;rw [←Q3.z];exact g0.z
    |succ m=>
     have Z4:(j:Int)+1≤(n:Int):=by omega
     have x4:(0:Int)≤(j:Int):=iNn j;have R3:Hid (Zj (zh zq) (zh zq) wj.heap.size 72 72 (fun b=>wj.heap.size≤b) wj (.slice none 0 0) (.slice none 0 0) ((List.range 0).map (Hs p.Q F R t ((j:Int)+1))) ((List.range 0).map (GS p.Q F R t ((j:Int)+1)))∧wj.grownBy wj none):=za ⟨⟨Acc.nil _ _ _ _ _,Acc.nil _ _ _ _ _⟩,gRr _ _⟩;go_upto_region 16 with (fail)
     go_loopg [16,17,76] L (fun gk s16 s17 s76 wx=> ∃i:Nat,i+gk=L∧s76= .int .i64 i∧Hid (Zj (zh zq) (zh zq) wj.heap.size 72 72 (fun b=>wj.heap.size≤b) wx s16 s17 ((List.range i).map (Hs p.Q F R t ((j:Int)+1))) ((List.range i).map (GS p.Q F R t ((j:Int)+1)))∧wj.grownBy wx none))
     case atStart=>exact ⟨0,by omega,rfl,R3⟩
     case round=>
      rename World=>wi
      obtain ⟨i,W4,rfl,HY⟩:=hrel;have U0:=za HY.z.1;have c3:=za HY.z.2;clear HY R3;obtain ⟨A16,n16,c16,rfl⟩:=U0.z.fst.sl.shape;obtain ⟨A17,n17,c17,rfl⟩:=U0.z.snd.sl.shape;cases gk with
      |zero=>
       have eI:L=i:=by omega
       subst eI;have c4: ¬((L:Int)< (L:Int)):=by omega
       obtain ⟨y,hy⟩:=exq (Uo p.Q F R t ((j:Int)+1));obtain ⟨z,hz⟩:=exq (UR p.Q F R t ((j:Int)+1));obtain ⟨xs,X1⟩:=exq ((List.range j).map fun k:Nat=>Uo p.Q F R t ((k:Int)+1));obtain ⟨ys,W1⟩:=exq ((List.range j).map fun k:Nat=>UR p.Q F R t ((k:Int)+1));have l4:Hid ((List.range (j+1)).map (fun k:Nat=>Uo p.Q F R t ((k:Int)+1))=xs++ [y]):=za (by rw [Lb,X1,hy]);have j4:Hid ((List.range (j+1)).map (fun k:Nat=>UR p.Q F R t ((k:Int)+1))=ys++ [z]):=za (by rw [Lb,W1,hz]);have i0:Hid (wj.grownBy wi.drew none):=za (c3.z.trans (zb wi 1));obtain ⟨hi,G1⟩:=exq (wi.drew.heap.size);have M3:Hid ((zh (zh zq)).rep (fun b=>wj.heap.size≤b∧b< hi) wi.drew [.slice A16 n16 c16] y):=za ⟨_,rfl,by
        rw [hy];unfold Uo;rw [O0.z.1,G1];exact ((U0.z.fst.sl.kept (zb wi 1)).bounded).more fun b _ hb=>⟨hb.1.1,hb.2⟩⟩
       have R1:Hid ((zh (zh zq)).rep (fun b=>wj.heap.size≤b∧b< hi) wi.drew [.slice A17 n17 c17] z):=za ⟨_,rfl,by
        rw [hz];unfold UR;rw [O0.z.1,G1];exact ((U0.z.snd.sl.kept (zb wi 1)).bounded).more fun b _ hb=>⟨hb.1.1,hb.2⟩⟩
       have l2:Hid (∀b,(Value.slice Ar1 nr1 cr1).ownBlock=some b→b< wj.heap.size):=za (fun b e=>(u0.z.fst.lt b e).2);have E1:Hid (∀b,(Value.slice Ac1 nc1 cc1).ownBlock=some b→b< wj.heap.size):=za (fun b e=>(u0.z.snd.lt b e).2);have L0:Hid (Bd< w4.heap.size∧w4.heap.size≤wj.heap.size):=za ⟨by have:=l0.z;omega,M0.z.size⟩;rw [←X1, ←W1] at u0;have Z3:Hid ((LP (zh (zh zq)) 107 103 w4 Bd wj.heap.size hi #[.slice Am nm cm, .slice Ar1 nr1 cr1, .slice Ac1 nc1 cc1] (.slice Ar1 nr1 cr1) (.slice Ac1 nc1 cc1) (.slice A16 n16 c16) (.slice A17 n17 c17) xs ys y z).C [] wi.drew):=za ⟨M0.z.trans (i0.z.but _),p1.z.grown i0.z (by simp),by rw [G1];exact nRf _,M3.z,R1.z,u0.z.kept i0.z⟩;have m0:Hid (∀vs W,(LP (zh (zh zq)) 107 103 w4 Bd wj.heap.size hi #[.slice Am nm cm, .slice Ar1 nr1 cr1, .slice Ac1 nc1 cc1] (.slice Ar1 nr1 cr1) (.slice Ac1 nc1 cc1) (.slice A16 n16 c16) (.slice A17 n17 c17) xs ys y z).C vs W→W.cell? ⟨Bd,1,none⟩=some (.slice Ar1 nr1 cr1)∧W.cell? ⟨Bd,2,none⟩=some (.slice Ac1 nc1 cc1)):=za (fun vs W hC=>⟨hC.2.1.cell 1,hC.2.1.cell 2⟩);have L1:Hid (∀vs W,(LP (zh (zh zq)) 107 103 w4 Bd wj.heap.size hi #[.slice Am nm cm, .slice Ar1 nr1 cr1, .slice Ac1 nc1 cc1] (.slice Ar1 nr1 cr1) (.slice Ac1 nc1 cc1) (.slice A16 n16 c16) (.slice A17 n17 c17) xs ys y z).C vs W→wj.heap.size≤W.heap.size):=za (fun vs W hC=>nLT (by rw [G1];exact i0.z.size) hC.2.2.1);have X2:Hid ((xs.length+1)*24≤140737488355328):=za (by rw [X1];simp;omega);have W2:Hid ((ys.length+1)*24≤140737488355328):=za (by rw [W1];simp;omega)
       clear hy hz X1 W1 G1 M3 R1 U0 p1;go_upto_region 21 with (fail)
       refine wp_region_late (LP (zh (zh zq)) 107 103 w4 Bd wj.heap.size hi #[.slice Am nm cm, .slice Ar1 nr1 cr1, .slice Ac1 nc1 cc1] (.slice Ar1 nr1 cr1) (.slice Ac1 nc1 cc1) (.slice A16 n16 c16) (.slice A17 n17 c17) xs ys y z) [4,9] 11 (by kernel_rfl) (by kernel_rfl) (by kernel_rfl) Z3.z ?_;refine lS (.pointer (some ⟨Bd,1,none⟩)) [] (fun vs w' hC=>lQ fun K hK=> ?_) ?_
       ·go_simp;exact hK _ rfl rfl
       refine LateR.mono (Qv.eq (.slice Ar1 nr1 cr1)) [(0,120)] (by kernel_rfl) (by rfl) rfl (fun vs w' hC=> ?_) ?_
       ·rintro _ rfl;refine askl_do rfl fun K hK=> ?_
        obtain ⟨q0,q1⟩:=m0.z vs w' hC;go_simp;exact hK _ _ rfl ⟨rfl,gRf⟩
       refine lS (.slice A16 n16 c16) [] (fun vs w' hC=>lQ fun K hK=> ?_) ?_
       ·go_simp;exact hK _ rfl rfl
       refine LateR.mono (twQ l2.z E1.z 103 (.slice A16 n16 c16)) [(2,122)] (by kernel_rfl) (by rfl) rfl (fun vs w' hC=> ?_) ?_
       ·rintro _ rfl;refine askl_do rfl fun K hK=> ?_
        have B0:=L1.z vs w' hC;go_simp;exact hK _ _ rfl ⟨⟨_,rfl,B0,Bk.new w' _ _⟩,gAl w' _ none⟩
       refine LateR.turn 0 [(1,121),(3,123)] (by kernel_rfl) rfl (fun vs w' hl hC=> ?_) ?_
       ·rintro _ rfl;intro x123 T0;have T0:BU wj.heap.size 103 (.slice A16 n16 c16) x123 w':=T0;obtain ⟨b123,e123,B3,C1⟩:=T0;subst e123;refine askl_do rfl fun K hK=> ?_
        obtain rfl:vs= []:=List.eq_nil_of_length_eq_zero hl;have B0:=L1.z _ w' hC;have I1:Zj (zh (zh zq)) (zh (zh zq)) w4.heap.size 103 103 (fun b=>w4.heap.size≤b) w' (.slice Ar1 nr1 cr1) (.slice Ac1 nc1 cc1) xs ys:=hC.2.2.2.2.2;refine yu (E:=zh (zh zq)) (y:=y) Pj I1.fst (Kd hC l2.z E1.z L0.z.2) (Bk.one C1) X2.z (nLT L0.z.2 B0) (I1.new1 (fun b hb=>nLT L0.z.2 (nLT B0 hb))) (.tmp 121) (.tmp 123) rfl rfl rfl ?_;intro v3 w3 ha j0 hm;exact hK _ _ rfl ⟨j0,Hb hC ha j0 hm l2.z L0.z.1⟩
       refine lS (.pointer (some ⟨Bd,2,none⟩)) [] (fun vs w' hC=>lQ fun K hK=> ?_) ?_
       ·go_simp;exact hK _ rfl rfl
       refine LateR.mono (Qv.eq (.slice Ac1 nc1 cc1)) [(5,125)] (by kernel_rfl) (by rfl) rfl (fun vs w' hC=> ?_) ?_
       ·rintro _ rfl;refine askl_do rfl fun K hK=> ?_
        obtain ⟨q0,q1⟩:=m0.z vs w' hC;go_simp;exact hK _ _ rfl ⟨rfl,gRf⟩
       refine lS (.slice A17 n17 c17) [] (fun vs w' hC=>lQ fun K hK=> ?_) ?_
       ·go_simp;exact hK _ rfl rfl
       refine LateR.mono (twQ l2.z E1.z 103 (.slice A17 n17 c17)) [(7,127)] (by kernel_rfl) (by rfl) rfl (fun vs w' hC=> ?_) ?_
       ·rintro _ rfl;refine askl_do rfl fun K hK=> ?_
        have B0:=L1.z vs w' hC;go_simp;exact hK _ _ rfl ⟨⟨_,rfl,B0,Bk.new w' _ _⟩,gAl w' _ none⟩
       refine LateR.turn 1 [(6,126),(8,128)] (by kernel_rfl) rfl (fun vs w' hl hC=> ?_) ?_
       ·rintro _ rfl;intro x128 S0;have S0:BU wj.heap.size 103 (.slice A17 n17 c17) x128 w':=S0;obtain ⟨b128,e128,A3,B1⟩:=S0;subst e128;refine askl_do rfl fun K hK=> ?_
        obtain ⟨u,rfl⟩: ∃u,vs= [u]:=List.length_eq_one_iff.1 hl;have B0:=L1.z _ w' hC;have I1:Zj (zh (zh zq)) (zh (zh zq)) w4.heap.size 103 103 (fun b=>w4.heap.size≤b) w' u (.slice Ac1 nc1 cc1) _ _:=hC.2.2.2.2.2.1;refine yu (E:=zh (zh zq)) (y:=z) Pj I1.snd (Kc hC E1.z L0.z.2) (Bk.one B1) W2.z (nLT L0.z.2 B0) (I1.new2 (fun b hb=>nLT L0.z.2 (nLT B0 hb))) (.tmp 126) (.tmp 128) rfl rfl rfl ?_;intro v3 w3 ha j0 hm;exact hK _ _ rfl ⟨j0,Ha hC ha j0 hm E1.z L0.z.1⟩
       refine lS (.pointer (some ⟨Bd,1,none⟩)) [] (fun vs w' hC=>lQ fun K hK=> ?_) ?_
       ·go_simp;exact hK _ rfl rfl
       intro vs w5 E3 R0;obtain ⟨u,u2,rfl⟩: ∃u u2,vs= [u,u2]:=by
        match vs,E3 with
        | [u,u2],_=>exact ⟨u,u2,rfl⟩
       iterate 4 (refine pD ?_;intro _)
       intro y4 k4
       iterate 4 (refine pD ?_;intro _)
       intro y9 k9 y10 k10;show wpList prog _ _ _ _ w5;simp only [Act.put,sAa,sAb,sAc];have e4:y4=u:=by have:some u=some y4:=k4;injection this with this;exact this.symm
       have e9:y9=u2:=by have:some u2=some y9:=k9;injection this with this;exact this.symm
       have e10:y10= .pointer (some ⟨Bd,1,none⟩):=k10;subst e4 e9 e10;have V3:=za (Hc R0 L0.z.1);have Q2:Zj (zh (zh zq)) (zh (zh zq)) w4.heap.size 103 103 (fun b=>w4.heap.size≤b) w5 y4 y9 _ _:=R0.2.2.2.2.2;obtain ⟨Au,nu,cu,rfl⟩:=Q2.fst.sl.shape;obtain ⟨Av,nv,cv,rfl⟩:=Q2.snd.sl.shape;have d0:=R0.2.1.cell 0;have d1:=R0.2.1.cell 1;have d2:=R0.2.1.cell 2;have fd:=R0.2.1.free;simp at d0 d1 d2;have g0:Hid (∃vr vc,Bk ((w5.setCell ⟨Bd,1,none⟩ (.slice Au nu cu)).setCell ⟨Bd,2,none⟩ (.slice Av nv cv)) Bd 107 #[.slice Am nm cm,vr,vc]∧Zj (zh (zh zq)) (zh (zh zq)) w4.heap.size 103 103 (fun b=>w4.heap.size≤b) ((w5.setCell ⟨Bd,1,none⟩ (.slice Au nu cu)).setCell ⟨Bd,2,none⟩ (.slice Av nv cv)) vr vc ((List.range (j+1)).map fun k:Nat=>Uo p.Q F R t ((k:Int)+1)) ((List.range (j+1)).map fun k:Nat=>UR p.Q F R t ((k:Int)+1))∧w4.grownBy ((w5.setCell ⟨Bd,1,none⟩ (.slice Au nu cu)).setCell ⟨Bd,2,none⟩ (.slice Av nv cv)) (some Bd)):=za (by
        rw [l4.z,j4.z];exact ⟨_,_,V3.z⟩)
       clear R0 Q2 V3 k4 k9 k10 m0 L1 Z3 u0;have P4:IntKind.u64.wrap ((j:Int)+1+1)=(j:Int)+1+1:=IntWalk.u64_in _ (by omega);go_wp2_with fail;go_roundg m
       case measure=>omega
       case rel=>exact ⟨j+1,by omega,by go_num,g0⟩
      |succ q=>
       have X4:(i:Int)< (L:Int):=by omega
       have a5:(0:Int)≤(i:Int):=iNn i;have F1:i< F.length:=by rw [O0.z.1];omega
       have D1:i< R.length:=by rw [O0.z.2];omega
       obtain ⟨gF,oF,cF',uF,eF,q1,q2,u3,D0⟩:=(K4.z _ M0.z).atS F1;clear q1 q2;injection eF with eF1 eF2 eF3
       clear eF2;subst eF1 eF3;obtain ⟨gR,oR,cR',uR,eR,q1,q2,s3,C0⟩:=(r4.z _ M0.z).atS D1;clear q1 q2;injection eR with eR1 eR2 eR3
       clear eR2;subst eR1 eR3;obtain ⟨Af,cf,ef,q1,q2⟩:=D0.form;clear q1 q2;obtain ⟨Ab,cb,eb,q1,q2⟩:=C0.form;clear q1 q2;have Z0:Hid (SqL t F[i]):=za (j1.z.1 _ (lGm F1));have Y0:Hid (SqL t R[i]):=za (j1.z.2 _ (lGm D1));rw [Z0.z.1] at ef;rw [Y0.z.1] at eb;subst ef eb;have s0:Hid ((List.range (i+1)).map (Hs p.Q F R t ((j:Int)+1))=(List.range i).map (Hs p.Q F R t ((j:Int)+1))++ [LS (Tx p.Q F[i] ((j:Int)+1)) (Tx p.Q R[i] ((j:Int)+1)) t]):=za (by
        rw [Lb];unfold Hs;rw [List.getElem?_eq_getElem F1,List.getElem?_eq_getElem D1];rfl)
       have p0:Hid ((List.range (i+1)).map (GS p.Q F R t ((j:Int)+1))=(List.range i).map (GS p.Q F R t ((j:Int)+1))++ [LS (TR p.Q F[i] ((j:Int)+1)) (TR p.Q R[i] ((j:Int)+1)) t]):=za (by
        rw [Lb];unfold GS;rw [List.getElem?_eq_getElem F1,List.getElem?_eq_getElem D1];rfl)
       have o2:Hid (U64 ((j:Int)+1)):=za ⟨by omega,by omega⟩;have a0:Hid (t≤3):=za (by have:=b0.z;omega);have x0:Hid (∀W,wj.grownBy W none→Calls prog 104 #[.slice Af t cf, .int .u64 ((j:Int)+1), .int .u64 p.Q] W (zN ze (fun b=>W.heap.size≤b) W (Tx p.Q F[i] ((j:Int)+1)))):=za (fun W hW=>callsIn_wide.1 (Fk 6 (nRf _) _ _ _ _ _ W (D0.kept hW) o2.z (by rw [Z0.z.1];have:=a0.z;omega) (fun c hc=>by rw [Z0.z.2 c hc];have:=a0.z;omega)));have h0:Hid (∀W,wj.grownBy W none→Calls prog 104 #[.slice Ab t cb, .int .u64 ((j:Int)+1), .int .u64 p.Q] W (zN ze (fun b=>W.heap.size≤b) W (Tx p.Q R[i] ((j:Int)+1)))):=za (fun W hW=>callsIn_wide.1 (Fk 6 (nRf _) _ _ _ _ _ W (C0.kept hW) o2.z (by rw [Y0.z.1];have:=a0.z;omega) (fun c hc=>by rw [Y0.z.2 c hc];have:=a0.z;omega)));have f1:Hid (∀W,wj.grownBy W none→Calls prog 105 #[.slice Af t cf, .int .u64 ((j:Int)+1), .int .u64 p.Q] W (zN ze (fun b=>W.heap.size≤b) W (TR p.Q F[i] ((j:Int)+1)))):=za (fun W hW=>Ib _ _ _ _ _ W (D0.kept hW) o2.z (by rw [Z0.z.1];have:=a0.z;omega));have X0:Hid (∀W,wj.grownBy W none→Calls prog 105 #[.slice Ab t cb, .int .u64 ((j:Int)+1), .int .u64 p.Q] W (zN ze (fun b=>W.heap.size≤b) W (TR p.Q R[i] ((j:Int)+1)))):=za (fun W hW=>Ib _ _ _ _ _ W (C0.kept hW) o2.z (by rw [Y0.z.1];have:=a0.z;omega));obtain ⟨a1,P2⟩:=exq (Tx p.Q F[i] ((j:Int)+1));obtain ⟨a2,O2⟩:=exq (Tx p.Q R[i] ((j:Int)+1));obtain ⟨b1,M2⟩:=exq (TR p.Q F[i] ((j:Int)+1));obtain ⟨b2,L2⟩:=exq (TR p.Q R[i] ((j:Int)+1))
       have z2:Hid (a1.length=t∧a2.length=t∧b1.length=t∧b2.length=t):=za ⟨by rw [P2];exact Nw Z0.z _ _,by rw [O2];exact Nw Y0.z _ _,by rw [M2];exact NW Z0.z _ _,by rw [L2];exact NW Y0.z _ _⟩;rw [←P2] at x0 s0;rw [←O2] at h0 s0;rw [←M2] at f1 p0;rw [←L2] at X0 p0;obtain ⟨yr,D2⟩:=exq (LS a1 a2 t);obtain ⟨yc,F2⟩:=exq (LS b1 b2 t);have N3:Hid (∀v1 v2 W,Sl ze TT W v1 a1→Sl ze TT W v2 a2→Calls prog 103 #[v1,v2] W (zN zq (fun b=>W.heap.size≤b) W yr)):=za (fun v1 v2 W h1 h2=>by rw [D2];exact UN v1 v2 a1 a2 t TT TT W h1 h2 z2.z.1 z2.z.2.1 (by have:=a0.z;omega));have O3:Hid (∀v1 v2 W,Sl ze TT W v1 b1→Sl ze TT W v2 b2→Calls prog 103 #[v1,v2] W (zN zq (fun b=>W.heap.size≤b) W yc)):=za (fun v1 v2 W h1 h2=>by rw [F2];exact UN v1 v2 b1 b2 t TT TT W h1 h2 z2.z.2.2.1 z2.z.2.2.2 (by have:=a0.z;omega));rw [←D2] at s0;rw [←F2] at p0;have y3:=u4.z _ M0.z;have m0:Hid (∀W,wj.grownBy W none→W.cell? ⟨w.heap.size,1,none⟩=some (.int .u64 p.Q)∧W.cell? ⟨gF,oF+i,none⟩=some (.slice Af t cf)∧W.cell? ⟨gR,oR+i,none⟩=some (.slice Ab t cb)):=za (fun W hW=>⟨(y3.grown hW (by simp)).cell 1,XS u3 hW (by simp),XS s3 hW (by simp)⟩);have U1:Hid ((((List.range i).map (Hs p.Q F R t ((j:Int)+1))).length+1)*24≤140737488355328):=za (by simp;omega);have T1:Hid ((((List.range i).map (GS p.Q F R t ((j:Int)+1))).length+1)*24≤140737488355328):=za (by simp;omega);have i0:Hid (wj.grownBy wi.drew none):=za (c3.z.trans (zb wi 1));have p2:=za (U0.z.kept (zb wi 1))
       obtain ⟨N1,D3⟩:=exq (wi.drew.heap.size);have Z2:Hid (N1=wi.drew.heap.size):=za D3;clear P2 O2 M2 L2 D2 F2 y3 u3 s3 D0 C0 D3 U0 c3 Z0 Y0;clear F1 D1;go_upto_region 18 with (fail)
       refine ZF 19 ?_;refine mP0 (.slice A16 n16 c16) ?_;refine mP0 (.slice (some ⟨gF,oF,none⟩) L cF) ?_;refine mP0 (.int .i64 (i:Int)) ?_;refine zm.step (Pv.eq (.pointer (some ⟨gF,oF+i,none⟩))) [(1,80),(2,81)] (by kernel_rfl) (fun w' hw'=> ?_) ?_
       ·rintro _ rfl;rintro _ rfl;refine zr rfl fun K hK=> ?_
        go_simp;exact hK _ _ rfl rfl gRf
       refine zm.step (Pv.eq (.slice Af t cf)) [(3,82)] (by kernel_rfl) (fun w' hw'=> ?_) ?_
       ·rintro _ rfl;refine zr rfl fun K hK=> ?_
        obtain ⟨q0,q1,q2⟩:=m0.z w' (i0.z.trans hw');go_simp;exact hK _ _ rfl rfl gRf
       refine mP0 (.int .u64 ((j:Int)+1)) ?_;refine mP0 (.pointer (some ⟨w.heap.size,1,none⟩)) ?_;refine zm.step (Pv.eq (.int .u64 p.Q)) [(6,85)] (by kernel_rfl) (fun w' hw'=> ?_) ?_
       ·rintro _ rfl;refine zr rfl fun K hK=> ?_
        obtain ⟨q0,q1,q2⟩:=m0.z w' (i0.z.trans hw');go_simp;exact hK _ _ rfl rfl gRf
       refine zm.step (slU a1) [(4,83),(5,84),(7,86)] (by kernel_rfl) (fun w' hw'=> ?_) ?_
       ·rintro _ rfl;rintro _ rfl;rintro _ rfl;refine zr rfl fun K hK=> ?_
        go_simp;refine (x0.z w' (i0.z.trans hw')).mono ?_;rintro e w3 ⟨v3,rfl,hs3,hg3⟩;exact hK _ _ rfl (hs3.more fun _ _ _=>trivial) hg3
       refine mP0 (.slice (some ⟨gR,oR,none⟩) L cR) ?_;refine mP0 (.int .i64 (i:Int)) ?_;refine zm.step (Pv.eq (.pointer (some ⟨gR,oR+i,none⟩))) [(9,88),(10,89)] (by kernel_rfl) (fun w' hw'=> ?_) ?_
       ·rintro _ rfl;rintro _ rfl;refine zr rfl fun K hK=> ?_
        go_simp;exact hK _ _ rfl rfl gRf
       refine zm.step (Pv.eq (.slice Ab t cb)) [(11,90)] (by kernel_rfl) (fun w' hw'=> ?_) ?_
       ·rintro _ rfl;refine zr rfl fun K hK=> ?_
        obtain ⟨q0,q1,q2⟩:=m0.z w' (i0.z.trans hw');go_simp;exact hK _ _ rfl rfl gRf
       refine mP0 (.int .u64 ((j:Int)+1)) ?_;refine mP0 (.pointer (some ⟨w.heap.size,1,none⟩)) ?_;refine zm.step (Pv.eq (.int .u64 p.Q)) [(14,93)] (by kernel_rfl) (fun w' hw'=> ?_) ?_
       ·rintro _ rfl;refine zr rfl fun K hK=> ?_
        obtain ⟨q0,q1,q2⟩:=m0.z w' (i0.z.trans hw');go_simp;exact hK _ _ rfl rfl gRf
       refine zm.step (slU a2) [(12,91),(13,92),(15,94)] (by kernel_rfl) (fun w' hw'=> ?_) ?_
       ·rintro _ rfl;rintro _ rfl;rintro _ rfl;refine zr rfl fun K hK=> ?_
        go_simp;refine (h0.z w' (i0.z.trans hw')).mono ?_;rintro e w3 ⟨v3,rfl,hs3,hg3⟩;exact hK _ _ rfl (hs3.more fun _ _ _=>trivial) hg3
       refine mV (slP N1 yr) [(8,87),(16,95)] (fun w' hw' x87 j2 x95 i2=>kD fun K hK=> ?_) ?_
       ·have j2:Sl ze TT w' x87 a1:=j2;obtain ⟨A87,c87,e87,k87,l87⟩:=j2.form;subst e87;have i2:Sl ze TT w' x95 a2:=i2;obtain ⟨A95,c95,e95,k95,l95⟩:=i2.form;subst e95;go_simp;refine (N3.z _ _ w' j2 i2).mono ?_;rintro e w3 ⟨v3,rfl,hs3,hg3⟩;exact hK _ _ rfl (hs3.more fun b _ hb=>nLT (by rw [Z2.z];exact hw'.size) hb) hg3
       refine mV (AG N1 yr) [(17,96)] (fun w' hw' x96 g2=>kD fun K hK=> ?_) ?_
       ·have g2:Sl zq (fun b=>N1≤b) w' x96 yr:=g2;obtain ⟨A96,c96,e96,k96,l96⟩:=g2.form;subst e96;go_simp;exact hK _ _ rfl ⟨_,_,_,_,rfl,Bk.new w' _ _,g2.kept (gAl w' _ none)⟩ (gAl w' _ none)
       intro w5 I2;intro y0 k0
       iterate 17 (refine pD ?_;intro _)
       intro y18 k18;show wpList prog _ _ _ _ w5;simp only [Act.put,sAa,sAb,sAc];have e0:y0= .slice A16 n16 c16:=k0;subst e0;have k18': ∃A n c b,y18= .slice (some ⟨b,0,none⟩) 1 1∧Bk w5 b 72 #[.slice A n c]∧Sl zq (fun b=>N1≤b) w5 (.slice A n c) yr:=k18;obtain ⟨Ay,ny,cy,by',ey,z1,y1⟩:=k18';subst ey;have J0:=za (p2.z.kept I2);have E0:Hid (wj.grownBy w5 none):=za (i0.z.trans I2);have U2:Hid (wj.heap.size≤w5.heap.size):=za E0.z.size;have V1:=za z1;have f0:Hid ((zh zq).rep (fun b=>(wj.heap.size≤b∧some b≠(Value.slice A17 n17 c17).ownBlock)∧some b≠(Value.slice A16 n16 c16).ownBlock) w5 [.slice Ay ny cy] yr):=za ⟨_,rfl,y1.more fun b _ hb=>by
        rw [Z2.z] at hb;exact ⟨⟨nLT i0.z.size hb,fun e=>absurd hb (Nat.not_le_of_lt (p2.z.snd.lt b e.symm).2)⟩,fun e=>absurd hb (Nat.not_le_of_lt (p2.z.fst.lt b e.symm).2)⟩⟩
       clear z1 y1 k0 k18 I2 p2 i0 Z2;refine wpList_plain rfl fun K hK=> ?_
       refine yu (E:=zh zq) (y:=yr) YJ J0.z.fst f0.z (Bk.one V1.z) U1.z U2.z (J0.z.new1 (fun _ h=>nLT U2.z h)) (.tmp 79) (.tmp 97) rfl rfl rfl ?_;intro v6 w6 ha j0 hm;refine hK _ _ ?_;clear hK;have k1:=za ((J0.z.one ha j0 hm).kept (zb w6 1));have K0:Hid (wj.grownBy w6.drew none):=za ((zP E0.z j0 (fun b e=>(J0.z.fst.lt b e).1)).trans (zb w6 1));rw [←s0.z] at k1;obtain ⟨A18,n18,c18,rfl⟩:=k1.z.fst.sl.shape;clear ha j0 hm J0 E0 f0 V1 U2 s0;obtain ⟨N2,C3⟩:=exq (w6.drew.heap.size);have Y2:Hid (N2=w6.drew.heap.size):=za C3;clear C3;go_upto_region 19 with (fail)
       refine ZF 19 ?_;refine mP0 (.slice A17 n17 c17) ?_;refine mP0 (.slice (some ⟨gF,oF,none⟩) L cF) ?_;refine mP0 (.int .i64 (i:Int)) ?_;refine zm.step (Pv.eq (.pointer (some ⟨gF,oF+i,none⟩))) [(1,100),(2,101)] (by kernel_rfl) (fun w' hw'=> ?_) ?_
       ·rintro _ rfl;rintro _ rfl;refine zr rfl fun K hK=> ?_
        go_simp;exact hK _ _ rfl rfl gRf
       refine zm.step (Pv.eq (.slice Af t cf)) [(3,102)] (by kernel_rfl) (fun w' hw'=> ?_) ?_
       ·rintro _ rfl;refine zr rfl fun K hK=> ?_
        obtain ⟨q0,q1,q2⟩:=m0.z w' (K0.z.trans hw');go_simp;exact hK _ _ rfl rfl gRf
       refine mP0 (.int .u64 ((j:Int)+1)) ?_;refine mP0 (.pointer (some ⟨w.heap.size,1,none⟩)) ?_;refine zm.step (Pv.eq (.int .u64 p.Q)) [(6,105)] (by kernel_rfl) (fun w' hw'=> ?_) ?_
       ·rintro _ rfl;refine zr rfl fun K hK=> ?_
        obtain ⟨q0,q1,q2⟩:=m0.z w' (K0.z.trans hw');go_simp;exact hK _ _ rfl rfl gRf
       refine zm.step (slU b1) [(4,103),(5,104),(7,106)] (by kernel_rfl) (fun w' hw'=> ?_) ?_
       ·rintro _ rfl;rintro _ rfl;rintro _ rfl;refine zr rfl fun K hK=> ?_
        go_simp;refine (f1.z w' (K0.z.trans hw')).mono ?_;rintro e w3 ⟨v3,rfl,hs3,hg3⟩;exact hK _ _ rfl (hs3.more fun _ _ _=>trivial) hg3
       refine mP0 (.slice (some ⟨gR,oR,none⟩) L cR) ?_;refine mP0 (.int .i64 (i:Int)) ?_;refine zm.step (Pv.eq (.pointer (some ⟨gR,oR+i,none⟩))) [(9,108),(10,109)] (by kernel_rfl) (fun w' hw'=> ?_) ?_
       ·rintro _ rfl;rintro _ rfl;refine zr rfl fun K hK=> ?_
        go_simp;exact hK _ _ rfl rfl gRf
       refine zm.step (Pv.eq (.slice Ab t cb)) [(11,110)] (by kernel_rfl) (fun w' hw'=> ?_) ?_
       ·rintro _ rfl;refine zr rfl fun K hK=> ?_
        obtain ⟨q0,q1,q2⟩:=m0.z w' (K0.z.trans hw');go_simp;exact hK _ _ rfl rfl gRf
       refine mP0 (.int .u64 ((j:Int)+1)) ?_;refine mP0 (.pointer (some ⟨w.heap.size,1,none⟩)) ?_;refine zm.step (Pv.eq (.int .u64 p.Q)) [(14,113)] (by kernel_rfl) (fun w' hw'=> ?_) ?_
       ·rintro _ rfl;refine zr rfl fun K hK=> ?_
        obtain ⟨q0,q1,q2⟩:=m0.z w' (K0.z.trans hw');go_simp;exact hK _ _ rfl rfl gRf
       refine zm.step (slU b2) [(12,111),(13,112),(15,114)] (by kernel_rfl) (fun w' hw'=> ?_) ?_
       ·rintro _ rfl;rintro _ rfl;rintro _ rfl;refine zr rfl fun K hK=> ?_
        go_simp;refine (X0.z w' (K0.z.trans hw')).mono ?_;rintro e w3 ⟨v3,rfl,hs3,hg3⟩;exact hK _ _ rfl (hs3.more fun _ _ _=>trivial) hg3
       refine mV (slP N2 yc) [(8,107),(16,115)] (fun w' hw' x107 H0 x115 G0=>kD fun K hK=> ?_) ?_
       ·have H0:Sl ze TT w' x107 b1:=H0;obtain ⟨A107,c107,e107,k107,l107⟩:=H0.form;subst e107;have G0:Sl ze TT w' x115 b2:=G0;obtain ⟨A115,c115,e115,k115,l115⟩:=G0.form;subst e115;go_simp;refine (O3.z _ _ w' H0 G0).mono ?_;rintro e w3 ⟨v3,rfl,hs3,hg3⟩;exact hK _ _ rfl (hs3.more fun b _ hb=>nLT (by rw [Y2.z];exact hw'.size) hb) hg3
       refine mV (AG N2 yc) [(17,116)] (fun w' hw' x116 F0=>kD fun K hK=> ?_) ?_
       ·have F0:Sl zq (fun b=>N2≤b) w' x116 yc:=F0;obtain ⟨A116,c116,e116,k116,l116⟩:=F0.form;subst e116;go_simp;exact hK _ _ rfl ⟨_,_,_,_,rfl,Bk.new w' _ _,F0.kept (gAl w' _ none)⟩ (gAl w' _ none)
       intro w7 H2;intro y0 k0
       iterate 17 (refine pD ?_;intro _)
       intro y18 k18;show wpList prog _ _ _ _ w7;simp only [Act.put,sAa,sAb,sAc];have e0:y0= .slice A17 n17 c17:=k0;subst e0;have k18': ∃A n c b,y18= .slice (some ⟨b,0,none⟩) 1 1∧Bk w7 b 72 #[.slice A n c]∧Sl zq (fun b=>N2≤b) w7 (.slice A n c) yc:=k18;obtain ⟨Ay,ny,cy,by',ey,z1,y1⟩:=k18';subst ey;have O1:=za (k1.z.kept H2);have f3:Hid (wj.grownBy w7 none):=za (K0.z.trans H2);have T2:Hid (wj.heap.size≤w7.heap.size):=za f3.z.size;have V1:=za z1;have f0:Hid ((zh zq).rep (fun b=>(wj.heap.size≤b∧some b≠(Value.slice A18 n18 c18).ownBlock)∧some b≠(Value.slice A17 n17 c17).ownBlock) w7 [.slice Ay ny cy] yc):=za ⟨_,rfl,y1.more fun b _ hb=>by
        rw [Y2.z] at hb;exact ⟨⟨nLT K0.z.size hb,fun e=>absurd hb (Nat.not_le_of_lt (k1.z.fst.lt b e.symm).2)⟩,fun e=>absurd hb (Nat.not_le_of_lt (k1.z.snd.lt b e.symm).2)⟩⟩
       clear z1 y1 k0 k18 H2 k1 K0 Y2;refine wpList_plain rfl fun K hK=> ?_
       refine yu (E:=zh zq) (y:=yc) YJ O1.z.snd f0.z (Bk.one V1.z) T1.z T2.z (O1.z.new2 (fun _ h=>nLT T2.z h)) (.tmp 99) (.tmp 117) rfl rfl rfl ?_;intro v8 w8 ha j0 hm;refine hK _ _ ?_;clear hK;have g0:Hid (Zj (zh zq) (zh zq) wj.heap.size 72 72 (fun b=>wj.heap.size≤b) w8 (.slice A18 n18 c18) v8 ((List.range (i+1)).map (Hs p.Q F R t ((j:Int)+1))) ((List.range (i+1)).map (GS p.Q F R t ((j:Int)+1)))∧wj.grownBy w8 none):=za ⟨by
        rw [p0.z];exact O1.z.two ha j0 hm,zP f3.z j0 (fun b e=>(O1.z.snd.lt b e).1)⟩
       clear ha j0 hm O1 f3 f0 V1 T2 p0 x0 h0 f1 X0 N3 O3 m0;go_wp2_with fail;go_roundg q
       case measure=>omega
       case rel=>exact ⟨i+1,by omega,by go_num,g0⟩
  |succ m=>
   have E4:(s:Int)< (L:Int):=by omega
   have f2:s< l.length:=by have:=Q3.z;omega
   obtain ⟨gl,ol,cl,el,_,_,Q0,P0,A0,z0⟩:=(a3.z _ N0.z).atP f2;injection el with el1 el2 el3
   subst el1 el3;obtain ⟨kb,A1⟩:=exq (k0+s*(2*dd));have V4:kb+2*dd≤v0:=by
    have h1:(s+1)*(2*dd)≤L*(2*dd):=Nat.mul_le_mul_right _ (by omega);have h2:=E2.z;rw [Nat.add_mul,Nat.one_mul] at h1;omega
   have B4:Hid (k0+(s+1)*(2*dd)=kb+dd+dd):=za (by rw [A1,Nat.add_mul,Nat.one_mul];omega);have C2:Hid (xA l p.Q dr t k0 (s+1)=xA l p.Q dr t k0 s++ [LO l[s].1 p.Q dr t kb]):=za (by
    rw [A1,g3.z];refine (Lb _ _).trans ?_;show _++ [LO (l[s]?.getD (0,0)).1 p.Q dr t (k0+s*(2*(t*t - 1)))]=_;rw [List.getElem?_eq_getElem f2];rfl)
   have s2:Hid (xB l p.Q dr t k0 (s+1)=xB l p.Q dr t k0 s++ [LO l[s].2 p.Q dr t (kb+dd)]):=za (by
    rw [A1,g3.z];refine (Lb _ _).trans ?_;show _++ [LO (l[s]?.getD (0,0)).2 p.Q dr t (k0+s*(2*(t*t - 1))+(t*t - 1))]=_;rw [List.getElem?_eq_getElem f2];rfl)
   rw [←A1] at A2;obtain ⟨x,hx⟩:=exq (l[s]);rw [←hx] at C2 s2 Q0 P0 A0 z0;obtain ⟨x1,x2⟩:=x;simp only at C2 s2 Q0 P0 A0 z0;obtain ⟨wa,g1⟩:=exq (wr.alloc (Obj.cells #[.int .u64 x1, .int .u64 x2] 153));obtain ⟨Bb,K1⟩:=exq (wr.heap.size);have d3:Hid (wr.grownBy wa none):=za (by rw [g1];exact gAl _ _ none);have l3:Hid (Bk wa Bb 153 #[.int .u64 x1, .int .u64 x2]):=za (by rw [g1,K1];exact Bk.new _ _ _);have C4:Hid (TI kb wa):=za (HT.z.keep A2.z d3.z (by simp));have q4:=za (o0.z.kept d3.z);have S3:Hid (w2.grownBy wa (some g)):=za (N0.z.trans (d3.z.but _));have x3:=za (V2.z x1 kb wa A0 (by omega) C4.z);have n4:=za z0;obtain ⟨y,hy⟩:=exq (LO x1 p.Q dr t kb);rw [←hy] at C2 x3;obtain ⟨z,hz⟩:=exq (LO x2 p.Q dr t (kb+dd));rw [←hz] at s2;have HZ:=za hz;have A4:Hid (((xA l p.Q dr t k0 s).length+1)*24≤140737488355328):=za (by simp [xA];omega);have z4:Hid (((xB l p.Q dr t k0 s).length+1)*24≤140737488355328):=za (by simp [xB];omega);have e1:Hid (w2.heap.size≤Bb∧(∀r,u10.ownBlock=some r→r< Bb)∧(∀r,u11.ownBlock=some r→r< Bb)):=za (by rw [K1];exact ⟨N0.z.size,fun r e=>(o0.z.fst.lt r e).2,fun r e=>(o0.z.snd.lt r e).2⟩);have i3:Hid (Bb< wa.heap.size):=za l3.z.lt;have W3: ∀o,(wr.alloc (Obj.cells #[.int .u64 x1, .int .u64 x2] 153)).cell? ⟨w.heap.size,o,none⟩=(#[.int .u64 p.P, .int .u64 p.Q, .int .u64 p.G, .int .u64 p.H, .int .i64 p.Nodes, .int .i64 p.N, .int .i64 p.T, .int .i64 p.K, .int .i64 p.D, .int .i64 p.R, .int .i64 p.M, .int .i64 p.X]:Array Value)[o]? :=by rw [←g1];exact (S1.z _ S3.z).prule
   have d0:(wr.alloc (Obj.cells #[.int .u64 x1, .int .u64 x2] 153)).cell? ⟨wr.heap.size,0,none⟩=some (.int .u64 x1):=by rw [←g1, ←K1];simpa using l3.z.cell 0
   clear A1 hy hz el2 hx A0 z0 f2;go_wp2_with fail;rw [←g1, ←K1];clear g1 K1 q3 Q0 P0;refine x3.z.mono ?_;rintro e w3 ⟨v50,rfl,hs3,hi3,hg3⟩;obtain ⟨A50,n50,c50,rfl⟩:=hs3.shape;have Y1:Hid (w2.grownBy w3 (some g)):=za (S3.z.trans hg3);have b3:=za hi3;have P1:=za (q4.z.keep hg3 (fun b hb e=>by injection e with e;have:=I0.z;omega));have k3:=za (l3.z.grown hg3 (fun e=>by injection e with e;have:=I0.z;have:=e1.z.1;omega));have f0:Hid ((zh (zh ze)).rep (fun b=>(w2.heap.size≤b∧some b≠u11.ownBlock)∧some b≠u10.ownBlock) w3 [.slice A50 n50 c50] y):=za ⟨_,rfl,hs3.more fun b _ hb=>⟨⟨by have:=e1.z.1;have:=i3.z;omega,fun e=>by have:=e1.z.2.2 b e.symm;have:=i3.z;omega⟩,fun e=>by have:=e1.z.2.1 b e.symm;have:=i3.z;omega⟩⟩;have H3:Hid (w2.heap.size≤w3.heap.size):=za Y1.z.size;clear hs3 hi3 hg3 W3 d0;go_wp2_with (at_builtin;refine zW rfl (.tmp 44) (.tmp 51) rfl (E:=zh (zh ze)) (y:=y) Xc P1.z.fst rfl rfl f0.z A4.z H3.z (P1.z.new1 (fun _ h=>nLT H3.z h)) ?_);intro v10 w4 ha hg hm;have J0:=za (P1.z.one ha hg hm);have E0:Hid (w2.grownBy w4 (some g)):=za (Y1.z.andThen hg (fun j e=> .inl (P1.z.fst.lt j e).1));have F4:Hid (TI (kb+dd) w4):=za (HT.z.keep b3.z hg (fun b e hb=>by have:=(P1.z.fst.lt b e).1;have:=y2.z b hb;have:=I0.z;omega));have j3:=za (k3.z.grown hg (fun e=>by have:=e1.z.2.1 _ e.symm;omega));clear ha hg hm;have X3:=(S1.z _ E0.z).prule;have d1:=j3.z.cell 1;simp at d1;have h3:=za (V2.z x2 (kb+dd) w4 n4.z (by omega) F4.z);rw [←HZ.z] at h3
   go_wp2_with fail;refine h3.z.mono ?_;rintro e w6 ⟨v59,rfl,hs6,hi6,hg6⟩;obtain ⟨A59,n59,c59,rfl⟩:=hs6.shape;have T3:Hid (w2.grownBy w6 (some g)):=za (E0.z.trans hg6);have D4:=za hi6;have M1:=za (J0.z.keep hg6 (fun b hb e=>by injection e with e;have:=I0.z;omega));have G3:Hid (w2.heap.size≤w6.heap.size):=za T3.z.size;have Q1:Hid ((zh (zh ze)).rep (fun b=>(w2.heap.size≤b∧some b≠v10.ownBlock)∧some b≠u11.ownBlock) w6 [.slice A59 n59 c59] z):=za ⟨_,rfl,hs6.more fun b _ hb=>⟨⟨nLT E0.z.size hb,fun e=>by have:=(J0.z.fst.lt b e.symm).2;omega⟩,fun e=>by have:=(J0.z.snd.lt b e.symm).2;omega⟩⟩;clear hs6 hi6 hg6 X3 d1;go_wp2_with (at_builtin;refine zW rfl (.tmp 53) (.tmp 60) rfl (E:=zh (zh ze)) (y:=z) Xc M1.z.snd rfl rfl Q1.z z4.z G3.z (M1.z.new2 (fun _ h=>nLT G3.z h)) ?_);intro v11 w7 ha hg hm;have g0:Hid (Zj (zh (zh ze)) (zh (zh ze)) w2.heap.size 43 43 (fun b=>w2.heap.size≤b) w7 v10 v11 (xA l p.Q dr t k0 (s+1)) (xB l p.Q dr t k0 (s+1))∧TI (k0+(s+1)*(2*dd)) w7∧w2.grownBy w7 (some g)):=za ⟨by rw [C2.z,s2.z];exact M1.z.two ha hg hm,by
    rw [B4.z];exact HT.z.keep D4.z hg (fun b e hb=>by have:=(M1.z.snd.lt b e).1;have:=y2.z b hb;have:=I0.z;omega),T3.z.andThen hg (fun j e=> .inl (M1.z.snd.lt j e).1)⟩
   clear ha hg hm;go_wp2_with fail;go_roundg m
   case measure=>omega
   case rel=>exact ⟨s+1,by omega,by go_num,g0⟩
end
end Go.Proofs.YtkdfjkdphdfclaaGreatDoor
