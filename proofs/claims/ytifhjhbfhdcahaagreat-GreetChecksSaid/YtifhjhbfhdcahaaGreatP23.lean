/- Lemmas for the walk: GK144, GK145, GK146, GK48, GK31, GK32, GK33, GK34, GK35, GC17, GC18, GC19, GK40, GK41, GK42, GK44, GK45, GK46, GD21, GK47, GK49, GK36, GK37, GK51, GK52, GK53, GK38, GD22. -/
import Derived.Test.YtifhjhbfhdcahaaGreatP22
import Derived.Test.YtifhjhbfhdcahaaGreatP14
import Derived.Test.YtifhjhbfhdcahaaGreatP13
import Derived.Test.YtifhjhbfhdcahaaGreatP12
import Derived.Test.YtifhjhbfhdcahaaGreatP11
import Derived.Test.YtifhjhbfhdcahaaGreatP20
set_option linter.all false
section
namespace Go.Proofs.YtifhjhbfhdcahaaGreat
open Go.Tx
set_option maxRecDepth 100000
set_option maxHeartbeats 16000000
theorem zPD(k st:List Nat)(s:List UInt8)(h8:W8 st):(zJE k st s).length=32:=by
 unfold zJE;rw[zIe,(zD2 h8 k _ _).1]
theorem zNr{F:SF}{L nx:Nat}(st k:List Nat)(s:List UInt8)(hk:k.length=64)(hkl:∀i,k.getD i 0<M32)(h8:W8 st)(hs:s.length≤10000000):Con Tryz.prog 114 [.agg (zBB st k),.str s] F L nx nx (.str (zJE k st s)) [] []:=by
 have tl:(zBB st k).length=2:=rfl;have tn:=zCg st k;have tk0:(zBB st k).getD 0 (.tup [])= .fs 1 (st.map eN):=rfl;obtain ⟨n,hn⟩:∃n,n=s.length/64*64:=⟨_,rfl⟩;have d1:(s.length:Int).tdiv 64=((s.length/64:Nat):Int):=by rw[uJ (by omega)];rfl
 have d2:((s.length/64:Nat):Int)*64=(n:Int):=by rw[hn];simp
 have hnl:n≤s.length:=by omega
 have hC:=fun F L nx=>zPC (F:=F) (L:=L) (nx:=nx) (s.drop n) s.length (by rw[wU];omega) (by omega)
 have hcl:(zGH (s.drop n) s.length).length≤200:=by unfold zGH;simp[zAL];omega
 have hsum:zJE k st s=zGR (zBO k st (s.take n++zGH (s.drop n) s.length) ((n+(zGH (s.drop n) s.length).length)/64)):=by rw[hn];rfl
 rw[hsum];obtain ⟨C,hCe⟩:∃C,C=zGH (s.drop n) s.length:=⟨_,rfl⟩;rw[←hCe]at hC hcl ⊢;have hXl:(s.take n++C).length=n+C.length:=by rw[zU,wI,uN hnl]
 have hA:=fun F L nx=>zQx (F:=F) (L:=L) (nx:=nx) st k st (s.take n++C) hk hkl h8 (by omega)
 rw[hXl]at hA;have hm8:=zD2 h8 k (s.take n++C) ((n+C.length)/64);have hO:=fun F L nx=>zQz (F:=F) (L:=L) (nx:=nx) (zBO k st (s.take n++C) ((n+C.length)/64)) hm8.2 (by rw[hm8.1];omega)
 have htl:(s.take n).length=n:=by rw[wI,uN hnl]
 refine zUU (zAg (L+1)) rfl rfl (fn:=Tryz.f114) (c:=Tryz.f114.body.getD .skip) (by kernel_rfl) (by rfl) (by kernel_rfl) rfl (by simp) ?_;intro F3 hF1 hF2;refine vcu ⟨[none,some (.str s),some (.ptr ⟨L+1,0⟩ 0 0),none,some (.str [])]++oz 20,[(⟨L+1,0⟩,.rows 53 2 true true [zBB st k])],10000⟩ ?_ ?_
 ·simp only[Tryz.f114,tl,tn,go_sem];repeat refine sd2 ?_
  exact ⟨(),(so0 hF2)⟩
 refine vcu ⟨[none,some (.str s),some (.ptr ⟨L+1,0⟩ 0 0),none,some (.str []),some (.int .i64 n)]++oz 19,[(⟨L+1,0⟩,.rows 53 2 true true [zBB st k])],20000⟩ ?_ ?_
 ·simp only[Tryz.f114,d1,d2,go_sem];repeat refine sd2 ?_
  exact ⟨(),(so0 hF2)⟩
 have nn:((n:Nat):Int).toNat=n:=by omega
 have td:List.take (s.length-n) (s.drop n)=s.drop n:=zQ (by rw[wU];omega);refine VT.of (zAg (L+1)) ?_;simp only[Tryz.f114,tk0,nn,td,vH,uU,go_sem];repeat refine sd2 ?_
 refine CallVC.same (hC _ _ _) ?_;simp only[htl,go_sem];repeat refine sd2 ?_
 refine CallVC.same (hA _ _ _) ?_;simp only[go_sem];repeat refine sd2 ?_
 refine CallVC.same (hO _ _ _) ?_;simp only[go_sem];repeat refine sd2 ?_
 refine ⟨zAA (fun x=>x.i) (by simp only[zA0,List.map];kernel_rfl),?_⟩;repeat refine sd2 ?_
 exact ps0
theorem zH0{F:SF}{L nx:Nat}(key:List UInt8)(hk:key.length≤64)(c:UInt8):Con Tryz.prog 115 [.str key,.int .i64 ((c.toNat:Nat):Int)] F L nx nx (.str (zEV key c)) [] []:=by
 have z0:([[.int .u8 0],[.int .u8 0],[.int .u8 0],[.int .u8 0],[.int .u8 0],[.int .u8 0],[.int .u8 0],[.int .u8 0],[.int .u8 0],[.int .u8 0],[.int .u8 0],[.int .u8 0],[.int .u8 0],[.int .u8 0],[.int .u8 0],[.int .u8 0],[.int .u8 0],[.int .u8 0],[.int .u8 0],[.int .u8 0],[.int .u8 0],[.int .u8 0],[.int .u8 0],[.int .u8 0],[.int .u8 0],[.int .u8 0],[.int .u8 0],[.int .u8 0],[.int .u8 0],[.int .u8 0],[.int .u8 0],[.int .u8 0],[.int .u8 0],[.int .u8 0],[.int .u8 0],[.int .u8 0],[.int .u8 0],[.int .u8 0],[.int .u8 0],[.int .u8 0],[.int .u8 0],[.int .u8 0],[.int .u8 0],[.int .u8 0],[.int .u8 0],[.int .u8 0],[.int .u8 0],[.int .u8 0],[.int .u8 0],[.int .u8 0],[.int .u8 0],[.int .u8 0],[.int .u8 0],[.int .u8 0],[.int .u8 0],[.int .u8 0],[.int .u8 0],[.int .u8 0],[.int .u8 0],[.int .u8 0],[.int .u8 0],[.int .u8 0],[.int .u8 0],[.int .u8 0]]:List (List PV))=(List.replicate 64 (0:UInt8)).map zBY:=by rw[List.map_replicate];rfl
 have e0:(key.map fun b:UInt8=>[PV.int .u8 ((b.toNat:Nat):Int)])=key.map zBY:=rfl;have e1:key.map zBY++List.drop key.length ((List.replicate 64 (0:UInt8)).map zBY)=(zFl key c 0).map zBY:=by
  rw[←List.map_drop,←wQ,zJL c hk]
 have wc:IntKind.u8.wrap ((c.toNat:Nat):Int)=((c.toNat:Nat):Int):=by
  have:=c.toNat_lt;simp[IntKind.wrap,IntKind.signed,IntKind.bits];omega
 have hml:∀i,((zFl key c i).map zBY).length=64:=fun i=>by rw[zG,zGU]
 refine bdy Tryz.f115 ?_;intro F3 hF1 hF2;simp only[Tryz.f115,go_sem];repeat refine sd2 ?_
 rw[z0,e0,zG,e1];refine ⟨hk,?_⟩;refine loopK.intro _ _ (I:=fun i:Nat=>⟨[none,some (.int .i64 ((c.toNat:Nat):Int)),none,none,some (.str []),some (.sl ⟨L+1,32⟩ 0 64),some (.int .i64 i)]++oz 20,[(⟨L+1,32⟩,.rows 5 1 true true ((zFl key c i).map zBY))],10000*(i+1)⟩)
  (pre:=fun i=>i≤64) (μ:=fun i=>64-i) 0 (by omega) ?_ ?_
 ·refine Sub.of (hfz hF2) (by simp only[go_sem,zAf,and_self,zW];try trivial) ?_ (by simp[zAs,keys]) (by simp);simp[zAi,Tx.look]
 intro i hi;by_cases hlt:i<64
 ·have g1:decide ((i:Int)<64)=true:=dT (by omega);have gd:=zJM (zFl key c i) (i:=i) (by rw[zGU];omega);rw[zKy key c hlt]at gd;have hx:=zR6 (key.getD i 0) c;have hs:=zFI (zFl key c i) i (key.getD i 0 ^^^ c);rw[zKz key c hlt]at hs;simp only[g1,gd,wc,hx,hs,hml,zA,go_sem];repeat refine sd2 ?_
  refine ⟨i+1,by omega,by omega,?_⟩;refine Sub.of (hfz hF2) (by simp only[go_sem,zAf,and_self,zY];try trivial) ?_ (by simp[zAs,keys]) (by simp only[];omega);simp only[zAi,Tx.look,if_true,and_true]
 ·have g1:decide ((i:Int)<64)=false:=dF (by omega);obtain rfl:i=64:=by omega
  have hb:=zBK (zEV key c);have ht:List.take 64 ((zEV key c).map zBY)=(zEV key c).map zBY:=zQ (by simp[zEV]);rw[zK0];have hl:((zEV key c).map zBY).length=64:=by simp[zEV]
  simp only[g1,ht,hb,hl,go_sem];refine ⟨zEN _,?_⟩;exact ps0
theorem zQ0{F:SF}{L nx:Nat}(st k:List Nat)(key s:List UInt8)(hk:k.length=64)(hkl:∀i,k.getD i 0<M32)(h8:W8 st)(hky:key.length≤64)(hs:s.length≤1000000):Con Tryz.prog 68 [.agg (zBB st k),.str key,.str s] F L nx nx (.str (zN5 k st key s)) [] []:=by
 have tl:(zBB st k).length=2:=rfl;have tn:=zCg st k;have kl:∀c,(zEV key c).length=64:=fun c=>by simp[zEV]
 have c92:=fun F L nx=>zH0 (F:=F) (L:=L) (nx:=nx) key hky 92
 have c54:=fun F L nx=>zH0 (F:=F) (L:=L) (nx:=nx) key hky 54
 have s1:=fun F L nx=>zNr (F:=F) (L:=L) (nx:=nx) st k (zEV key 54++s) hk hkl h8 (by rw[zU,kl];omega)
 have hml:=zPD k st (zEV key 54++s) h8;have s2:=fun F L nx=>zNr (F:=F) (L:=L) (nx:=nx) st k (zEV key 92++zJE k st (zEV key 54++s)) hk hkl h8 (by rw[zU,kl,hml];omega)
 rw[show zJE k st (zEV key 92++zJE k st (zEV key 54++s))=zN5 k st key s from rfl]at s2;have g1:decide ((64:Int)<(key.length:Int))=false:=dF (by omega);have t92:(((92:UInt8).toNat:Nat):Int)=92:=rfl;have t54:(((54:UInt8).toNat:Nat):Int)=54:=rfl;rw[t92]at c92;rw[t54]at c54;obtain ⟨K1,hK1⟩:∃K,K=zEV key 92:=⟨_,rfl⟩;obtain ⟨K2,hK2⟩:∃K,K=zEV key 54:=⟨_,rfl⟩;have kl1:=kl 92;have kl2:=kl 54;rw[←hK1]at c92 s2 kl1;rw[←hK2]at c54 s2 s1 hml kl2;refine bdy Tryz.f68 ?_;intro F3 hF1 hF2;simp only[Tryz.f68,tl,tn,g1,go_sem];repeat refine sd2 ?_
 refine CallVC.same (c92 _ _ _) ?_;simp only[go_sem];repeat refine sd2 ?_
 refine CallVC.same (c54 _ _ _) ?_;simp only[go_sem];repeat refine sd2 ?_
 refine CallVC.same (s1 _ _ _) ?_;simp only[go_sem];repeat refine sd2 ?_
 refine CallVC.same (s2 _ _ _) ?_;simp only[go_sem];repeat refine sd2 ?_
 refine ⟨zAA (fun x=>x.i) (by simp only[zA0,List.map];kernel_rfl),?_⟩;repeat refine sd2 ?_
 exact ps0
theorem zPE{F:SF}{L nx:Nat}(x y:Nat):Con Tryz.prog 116 [.int .u64 x,.int .u64 y,.int .u64 0] F L nx nx (.tup [.int .u64 (((x+y)%2^64:Nat):Int),.int .u64 (((x+y)/2^64:Nat):Int)]) [] []:=by
 refine ⟨zH _,fun F2 h2 E w args' hR hf hd hv=>?_⟩;simp only[VRl,VR]at hv;obtain ⟨_,_,rfl,rfl,_,_,rfl,rfl,_,_,rfl,rfl,rfl⟩:=hv;have hr:(callFunc 116 [Value.int .u64 x,Value.int .u64 y,Value.int .u64 0].toArray).run Tryz.prog w= .ok (.value (Go.Extern.MathBitsCarry.pair ((x+y+0)%Go.Extern.MathBitsCarry.m64) ((x+y+0)/Go.Extern.MathBitsCarry.m64))) w:=by rfl
 rw[hr];refine ⟨E,?_,StepR.refl hR,fun n a b=>absurd a b⟩;simp only[VR,VRl];exact ⟨_,rfl,_,_,rfl,rfl,_,_,rfl,rfl,rfl⟩
theorem zPF{F:SF}{L nx:Nat}(x p:Nat)(hx:x<2^39)(hp:p<2^30)(k:Nat)(hk:k=2∨k=3)(b:Bool)(hb:b=if k=2 then enH p x else enK p x):Con Tryz.prog 70 [.int .u64 x,.int .u64 p,.int .i64 k] F L nx nx (.bool b) [] []:=by
 have m1:=fun F L nx=>zEK (F:=F) (L:=L) (nx:=nx) x x (by omega) (by omega)
 obtain ⟨hi,hhi⟩:∃a,a=x*x/2^64:=⟨_,rfl⟩;obtain ⟨lo,hlo⟩:∃a,a=x*x%2^64:=⟨_,rfl⟩;have hxx:x*x<2^78:=by
  have:=Nat.mul_lt_mul_of_lt_of_lt hx hx
  rwa[←Nat.pow_add]at this
 rw[←hhi,←hlo]at m1;have hhl:x*x=hi*2^64+lo:=by omega
 have lol:lo<2^64:=by omega
 have hil:hi<2^14:=by omega
 rcases hk with rfl|rfl
 ·have c2:(((2:Nat):Int)==2)=true:=rfl;rw[if_pos rfl]at hb;have hb2:b=(decide ((hi:Int)<(p:Int))||((hi:Int)==(p:Int))&&((lo:Int)==0)):=by
   rw[hb];unfold enH;rw[qB];simp only[decide_eq_true_eq,vV,zC,beq_iff_eq];rw[hhl];omega
  refine bdy Tryz.f70 ?_;intro F3 hF1 hF2;by_cases c1:hi<p
  ·have d1:decide ((hi:Int)<(p:Int))=true:=dT (by omega);rw[d1,Bool.true_or]at hb2;simp only[Tryz.f70,go_sem];refine CallVC.same (m1 _ _ _) ?_;simp only[c2,d1,hb2,go_sem];exact .bool (.inr rfl) rfl rfl (by simp[UpdAll])
  ·have d1:decide ((hi:Int)<(p:Int))=false:=dF (by omega);rw[d1,Bool.false_or]at hb2;by_cases c3:hi=p
   ·have d3:((hi:Int)==(p:Int))=true:=by simp[c3]
    rw[d3,zR]at hb2;simp only[Tryz.f70,go_sem];refine CallVC.same (m1 _ _ _) ?_;simp only[c2,d1,d3,hb2,go_sem];exact .bool (.inr rfl) rfl rfl (by simp[UpdAll])
   ·have d3:((hi:Int)==(p:Int))=false:=by simp;omega
    rw[d3,zX]at hb2;simp only[Tryz.f70,go_sem];refine CallVC.same (m1 _ _ _) ?_;simp only[c2,d1,d3,hb2,go_sem];exact .bool (.inr rfl) rfl rfl (by simp[UpdAll])
 ·have c2:(((3:Nat):Int)==2)=false:=rfl;rw[if_neg (by omega)]at hb;have m2:=fun F L nx=>zEK (F:=F) (L:=L) (nx:=nx) lo x lol (by omega)
  have m3:=fun F L nx=>zEK (F:=F) (L:=L) (nx:=nx) hi x (by omega) (by omega)
  have hd:hi*x<2^53:=by
   have:=Nat.mul_lt_mul_of_lt_of_lt hil hx
   rwa[←Nat.pow_add]at this
  have hlx:lo*x<2^103:=by
   have:=Nat.mul_lt_mul_of_lt_of_lt lol hx
   rwa[←Nat.pow_add]at this
  have hxxx:x*x*x=hi*x*2^64+lo*x:=by rw[hhl,wF,Nat.mul_right_comm]
  obtain ⟨d,hde⟩:∃d,d=hi*x:=⟨_,rfl⟩;obtain ⟨e,hee⟩:∃e,e=lo*x:=⟨_,rfl⟩;rw[←hde]at m3 hd hxxx;rw[←hee]at m2 hlx hxxx;have hd0:d/2^64=0:=by omega
  have hd1:d%2^64=d:=by omega
  rw[hd0,hd1]at m3;obtain ⟨a,hae⟩:∃a,a=e/2^64:=⟨_,rfl⟩;obtain ⟨r,hre⟩:∃r,r=e%2^64:=⟨_,rfl⟩;rw[←hae,←hre]at m2;have hal:a<2^39:=by omega
  have hrl:r<2^64:=by omega
  have a1:=fun F L nx=>zPE (F:=F) (L:=L) (nx:=nx) a d
  have hs0:(a+d)/2^64=0:=by omega
  have hs1:(a+d)%2^64=a+d:=by omega
  rw[hs0,hs1]at a1;obtain ⟨m,hm⟩:∃m,m=a+d:=⟨_,rfl⟩;rw[←hm]at a1;have hx3:x*x*x=m*2^64+r:=by
   have he:e=a*2^64+r:=by omega
   rw[hxxx,hm,wF,he,←zA,Nat.add_comm (d*2^64)]
  have hml:m<2^54:=by omega
  obtain ⟨q,hq⟩:∃q,q=p*2^32:=⟨_,rfl⟩;have hql:q<2^62:=by omega
  have wq:IntKind.u64.wrap ((p:Int)*2^min 32 64)=(q:Int):=by
   rw[hq,show min 32 64=32 from rfl];simp[IntKind.wrap,IntKind.signed,IntKind.bits];omega
  have w0:IntKind.u64.wrap (((0:Nat):Int)+((0:Nat):Int))=0:=by simp[IntKind.wrap,IntKind.signed,IntKind.bits]
  have z0:((0:Int)==0)=true:=rfl;have hb2:b=(decide ((m:Int)<(q:Int))||((m:Int)==(q:Int))&&((r:Int)==0)):=by
   rw[hb];unfold enK;rw[qB];simp only[decide_eq_true_eq,vV,zC,beq_iff_eq];rw[hx3];omega
  refine bdy Tryz.f70 ?_;intro F3 hF1 hF2;simp only[Tryz.f70,go_sem];refine CallVC.same (m1 _ _ _) ?_;simp only[c2,go_sem];refine CallVC.same (m2 _ _ _) ?_;simp only[go_sem];refine CallVC.same (m3 _ _ _) ?_;simp only[go_sem];refine CallVC.same (a1 _ _ _) ?_;have key:∀u v:Bool,u=decide ((m:Int)<(q:Int))→v=((m:Int)==(q:Int))→b=(u||v&&((r:Int)==0)):=fun u v hu hv=>by rw[hu,hv,hb2]
  clear hb2;obtain ⟨u,hu⟩:∃u,u=decide ((m:Int)<(q:Int)):=⟨_,rfl⟩;obtain ⟨v,hv⟩:∃v,v=((m:Int)==(q:Int)):=⟨_,rfl⟩;have hb3:=key u v hu hv;have hu':=hu.symm;have hv':=hv.symm;clear hu hv key;cases u<;>cases v
  all_goals
   simp only[w0,z0,wq,hu',hv',hb3,go_sem]
  all_goals
   repeat refine sd2 ?_
   exact .bool (.inr rfl) rfl rfl (by simp[UpdAll])
theorem zNs{F:SF}{L nx:Nat}(p:Nat)(hp:p<1000)(k:Nat)(hk:k=2∨k=3)(e:Nat→Bool)(he:e=if k=2 then enH p else enK p):Con Tryz.prog 39 [.int .i64 p,.int .i64 k] F L nx nx (.int .i64 ((zEJ e 0 37%M32:Nat):Int)) [] []:=by
 have wp:IntKind.u64.wrap (p:Int)=(p:Int):=by simp[IntKind.wrap,IntKind.signed,IntKind.bits];omega
 have e37:zEJ e 0 38=zEJ e 0 37:=by
  have:e (0+2^37)=false:=by
   rw[he];rcases hk with rfl|rfl;·rw[if_pos rfl];unfold enH;exact decide_eq_false (by omega)
   ·rw[if_neg (by omega)];unfold enK;exact decide_eq_false (by omega)
  show zEJ e (if e (0+2^37) then 0+2^37 else 0) 37=_;rw[this];rfl
 refine zUU (zAg (L+1)) rfl rfl (fn:=Tryz.f39) (c:=Tryz.f39.body.getD .skip) (by kernel_rfl) (by rfl) (by kernel_rfl) rfl (by simp) ?_;intro F3 hF1 hF2;refine vcu ⟨[some (.int .i64 p),some (.int .i64 k),none,none,some (.int .i64 0)]++oz 21,[],10000⟩ ?_ ?_
 ·simp only[Tryz.f39,go_sem];repeat refine sd2 ?_
  exact ⟨(),(so0 hF2)⟩
 refine vcu ⟨[some (.int .i64 p),some (.int .i64 k),none,none,some (.int .i64 0),some (.int .u64 0),some (.int .u64 274877906944)]++oz 19,[],20000⟩ ?_ ?_
 ·simp only[Tryz.f39,go_sem];repeat refine sd2 ?_
  exact ⟨(),(so0 hF2)⟩
 obtain ⟨R,hR⟩:∃R,R=zEJ e 0 38:=⟨_,rfl⟩;rw[←e37,←hR];refine VT.cut (zAg (L+1)) (by kernel_rfl) (fun _:Unit=>⟨[none,none,none,none,some (.int .i64 0),some (.int .u64 R)]++oz 20,[],2000000⟩) (fun _=>R<2^38) ?_ ?_
 ·simp only[Tryz.f39,go_sem];repeat refine sd2 ?_
  refine loopK.intro _ _ (I:=fun z:Nat×Nat=>⟨[some (.int .i64 p),some (.int .i64 k),none,none,some (.int .i64 0),some (.int .u64 z.2),some (.int .u64 ((z.2+2^(38-z.1):Nat):Int))]++oz 19,[],20000+10000*z.1⟩) (pre:=fun z=>z.1≤38∧zEJ e z.2 (38-z.1)=R∧z.2+2^(38-z.1)≤2^38) (μ:=fun z=>38-z.1) (0,0) ⟨by simp,hR.symm,by simp⟩ ?_ ?_;·exact Sub.of (hfz hF2) (by simp only[go_sem,zAf];first|trivial|simp) (by simp[zAi]) (by simp[zAs]) (by simp)
  rintro ⟨j,x⟩ ⟨hj,hg,hx⟩
  simp only at hj hg hx ⊢;by_cases hlt:j<38
  ·obtain ⟨h,hh⟩:∃h,h=2^(38-(j+1)):=⟨_,rfl⟩;have h2:2^(38-j)=2*h:=by rw[hh,show 38-j=(38-(j+1))+1 by omega,Nat.pow_succ,vL]
   have hp0:0<h:=by rw[hh];exact Nat.pow_pos (by omega)
   rw[h2]at hx ⊢;have hs:zEJ e x (38-j)=zEJ e (if e (x+h) then x+h else x) (38-(j+1)):=by
    rw[show 38-j=(38-(j+1))+1 by omega,hh];rfl
   rw[hs]at hg;have w1:IntKind.u64.wrap ((x:Int)+1)=((x+1:Nat):Int):=by simp[IntKind.wrap,IntKind.signed,IntKind.bits];omega
   have w2:IntKind.u64.wrap ((x:Int)+((x+2*h:Nat):Int))=((x+(x+2*h):Nat):Int):=by simp[IntKind.wrap,IntKind.signed,IntKind.bits];omega
   have t2:(((x+(x+2*h):Nat):Int)).tdiv 2=((x+h:Nat):Int):=by rw[uJ (by omega)];omega
   have g1:decide (((x+1:Nat):Int)<((x+2*h:Nat):Int))=true:=dT (by omega);obtain ⟨y,hy⟩:∃y,y=x+h:=⟨_,rfl⟩;rw[←hy]at t2 hg;have hB:=fun F L nx=>zPF (F:=F) (L:=L) (nx:=nx) y p (by omega) (by omega) k hk (e y) (by rw[he];split<;>rfl)
   obtain ⟨S,hS⟩:∃S,S=x+(x+2*h):=⟨_,rfl⟩;obtain ⟨Q,hQ⟩:∃Q,Q=x+2*h:=⟨_,rfl⟩;rw[←hS]at w2 t2;rw[←hQ]at w2 g1 hS ⊢;obtain ⟨x1,hx1⟩:∃a,a=x+1:=⟨_,rfl⟩;rw[←hx1]at w1 g1;have wy:IntKind.u64.wrap (y:Int)=(y:Int):=by simp[IntKind.wrap,IntKind.signed,IntKind.bits];omega
   cases hey:e y;all_goals
    rw[hey]at hB hg;simp only[if_true,if_false,wC]at hg;simp only[g1,w1,w2,wp,t2,wy,zA,go_sem];repeat refine sd2 ?_
    refine CallVC.same (hB _ _ _) ?_;simp only[zA,go_sem];repeat refine sd2 ?_
    refine ⟨(j+1,if e y=true then y else x),⟨by simp only[];omega,by simp only[hey,if_true,if_false,wC];exact hg,by simp only[hey,if_true,if_false,wC];rw[←hh];omega⟩,by simp only[];omega,?_⟩;simp only[hey,if_true,if_false,wC];rw[←hh];exact (so0 hF2 (h1:=by(simp only[go_sem,zAf,and_self,hQ,hy,zA,show x+(h+h)=x+2*h by omega];try trivial)) (h4:=by simp only[];omega))
  ·obtain rfl:j=38:=by omega
   have hxR:x=R:=hg;subst hxR;have w1:IntKind.u64.wrap ((x:Int)+1)=((x+1:Nat):Int):=by simp[IntKind.wrap,IntKind.signed,IntKind.bits];omega
   have e1:x+2^(38-38)=x+1:=rfl;rw[e1]at hx ⊢;obtain ⟨x1,hx1⟩:∃a,a=x+1:=⟨_,rfl⟩;rw[←hx1]at w1 hx ⊢;have g1:decide ((x1:Int)<(x1:Int))=false:=dF (by omega);simp only[g1,w1,go_sem];repeat refine sd2 ?_
   exact ⟨(),by omega,(so0 hF2 (h4:=by simp only[];omega))⟩
 intro _ hR38;have r1:(R:Int).tmod 4294967296=((R%M32:Nat):Int):=by rw[wY (by omega)];rfl
 have r2:IntKind.i64.wrap ((R%M32:Nat):Int)=((R%M32:Nat):Int):=by
  have:=zEL R;unfold M32 at this;simp[IntKind.wrap,IntKind.signed,IntKind.bits,M32];omega
 refine VT.of (zAg (L+1)) ?_;simp only[Tryz.f39,r1,r2,go_sem];repeat refine sd2 ?_
 have i1:Sx.zCn ((R%M32:Nat):Int):=by
  have:=zEL R;unfold M32 at this ⊢;show _∧_;omega
 refine ⟨i1,?_⟩;exact ps0
def prF(p i:Nat):Bool:=((pz.take (cnt p)).take i).all fun q=>p%q !=0
theorem zUN:((List.range 312).all fun p=>decide (p<2)||(((pz.take (cnt p)).all fun q=>p%q !=0)==pz.contains p)&&(pz.take (cnt p)).length==cnt p&&(!pz.contains p||pz.take (cnt p)++[p]==pz.take (cnt p+1)))=true:=by kernel_rfl
theorem zQ1{p:Nat}(h2:2≤p)(h:p<312):((pz.take (cnt p)).all fun q=>p%q !=0)=pz.contains p∧(pz.take (cnt p)).length=cnt p∧(pz.contains p=true→pz.take (cnt p)++[p]=pz.take (cnt p+1)):=by
 have:=List.all_eq_true.1 zUN p (by simpa using h);simp only[show decide (p<2)=false from decide_eq_false (by omega),Bool.false_or,zC,vV,beq_iff_eq,qM]at this;refine ⟨this.1.1,this.1.2,fun hc=>?_⟩;rcases this.2 with h5|h5;·rw[h5]at hc;cases hc
 ·exact h5
theorem zPj:∀i,i<64→0<pz.getD i 0∧pz.getD i 0<1000:=by
 intro i hi;have:((List.range 64).all fun i=>decide (0<pz.getD i 0∧pz.getD i 0<1000))=true:=by kernel_rfl
 simpa using List.all_eq_true.1 this i (by simpa using hi)
theorem zSG(p:Nat):cnt p≤64:=by
 unfold cnt;have:pz.length=64:=by kernel_rfl
 have h2:=List.length_filter_le (fun q=>decide (q<p)) pz;omega
theorem zL0{F:SF}{L nx:Nat}:Con Tryz.prog 38 [.int .i64 64] F L nx nx (.fs 1 (pz.map eN)) [] []:=by
 refine bdy Tryz.f38 ?_;intro F3 hF1 hF2;simp only[Tryz.f38,go_sem];repeat refine sd2 ?_
 refine loopK.intro _ _ (I:=fun z:Nat×Nat=>⟨[some (.int .i64 64),none,some (.nilS),some (.sl ⟨L+1,z.2⟩ 0 (cnt z.1)),some (.int .i64 z.1)]++oz 27,[(⟨L+1,z.2⟩,.rows 3 1 true true ((pz.take (cnt z.1)).map eN))],10000*(70*z.1+1)⟩)
  (pre:=fun z=>2≤z.1∧z.1≤312∧z.2<10000*(70*z.1+1)) (μ:=fun z=>312-z.1) (2,96) ⟨by simp,by simp,by simp⟩ ?_ ?_
 ·refine Sub.trans (zUm 3 3 (wd:=1) (by omega) rfl) ?_;refine Sub.of (hfz hF2) (by simp only[zIb,go_sem,zAf];try trivial) ?_ ?_ ?_;·simp[zAi,Tx.look,zAl,setH,zIb]
  ·simp[zAs,keys,zAl,setH]
  ·simp
 rintro ⟨p,q⟩ ⟨hp2,hp,hq⟩
 simp only at hp2 hp hq ⊢;have hcl:=zSG p;by_cases hlt:p<312
 ·obtain ⟨hc1,hc2,hc3⟩:=zGT hp2 hlt;obtain ⟨k1,k2,k3⟩:=zQ1 hp2 hlt;have g1:decide (((cnt p:Nat):Int)<64)=true:=dT (by omega);obtain ⟨l,hl⟩:∃l,l=pz.take (cnt p):=⟨_,rfl⟩;have hlg:∀x,x<cnt p→l.getD x 0=pz.getD x 0:=fun x hx=>by
   rw[hl];simp[zE,hx]
  have hprF:∀x,prF p x=(l.take x).all fun q=>p%q !=0:=fun x=>by rw[hl];rfl
  rw[←hl]at k1 k2 k3 ⊢;have hll:(l.map eN).length=cnt p:=by rw[zG,k2]
  obtain ⟨c,hc⟩:∃c,c=cnt p:=⟨_,rfl⟩;rw[←hc]at g1 k2 k3 hll hc2 hcl hlg hc1 ⊢;obtain ⟨b,hb⟩:∃b,b=70*p:=⟨_,rfl⟩;rw[←hb]at hq ⊢;simp only[g1,zA,go_sem];repeat refine sd2 ?_
  refine loopK.intro _ _ (I:=fun j:Nat=>⟨[some (.int .i64 64),none,some (.nilS),some (.sl ⟨L+1,q⟩ 0 c),some (.int .i64 p),some (.bool (prF p j)),some (.int .i64 (j:Int))]++oz 25,[(⟨L+1,q⟩,.rows 3 1 true true (l.map eN))],10000*(b+1+j+1)⟩)
   (pre:=fun j=>j≤c) (μ:=fun j=>c-j) 0 (by omega) ?_ ?_
  ·refine Sub.of (hfz hF2) (by simp only[go_sem,zAf,and_self,zW,prF,uG,List.all_nil];try trivial) ?_ (by simp[zAs,keys]) (by simp only[];omega);simp[zAi,Tx.look]
  intro j hj;by_cases hjc:j<c
  ·have g2:decide ((j:Int)<(c:Int))=true:=dT (by omega);have gj:=zFM l j (by omega);have hx:=hlg j hjc;have hxp:=zPj j (by omega);obtain ⟨x,hxe⟩:∃x,x=l.getD j 0:=⟨_,rfl⟩;rw[←hxe]at gj hx;rw[←hx]at hxp;have tm:(p:Int).tmod (x:Int)=((p%x:Nat):Int):=by rw[wY (by omega)];rfl
   have hs:prF p (j+1)=(prF p j&&(p%x !=0)):=by
    rw[hprF,hprF,uX (by omega),List.all_append];have:l[j]'(by omega)=x:=by rw[hxe];simp[zE,show j<l.length by omega]
    simp[this]
   have hx0:(x:Int)≠0:=by omega
   cases hm:p%x==0;all_goals
    have tm0:(((p%x:Nat):Int)==0)=(p%x==0):=by
     by_cases h:p%x=0;·rw[h];rfl
     ·have h2:(p%x==0)=false:=by simpa using h
      rw[h2];simp;omega
    rw[hm]at tm0;have hm':(p%x !=0)= !(p%x==0):=rfl;rw[hm',hm]at hs;simp only[zT,zN,uP,vJ]at hs;simp only[g2,gj,tm,tm0,hll,zA,go_sem];refine And.intro (by first|exact ⟨hx0,by show _∧_;omega⟩|exact hx0|omega) ?_;repeat refine sd2 ?_
    refine ⟨j+1,by omega,by omega,?_⟩;exact (so0 hF2 (h1:=by(simp only[go_sem,zAf,and_self,hs,zY];try trivial)) (h4:=by simp only[];omega))
  ·have g2:decide ((j:Int)<(c:Int))=false:=dF (by omega);obtain rfl:j=c:=by omega
   have hpr:prF p j=pz.contains p:=by rw[hprF,←k1,zQ (by omega)]
   rw[hpr];obtain ⟨i,hi⟩:∃i,i=b+1+j:=⟨_,rfl⟩;rw[←hi];have hq2:q<10000*(i+1):=by omega
   clear hq;have hq:=hq2;obtain ⟨q_n1,q_n2,q_n3,q_n4,q_n5⟩:=nqL L (i:=i) (p:=q) (by omega);cases hpc:pz.contains p
   ·rw[hpc]at hc1;simp only[wC,if_false]at hc1;simp only[g2,zA,go_sem];repeat refine sd2 ?_
    refine ⟨(p+1,q),⟨by simp only[];omega,by simp only[];omega,by simp only[];omega⟩,by simp only[];omega,?_⟩;have hl2:pz.take j=l:=by rw[hl,hc]
    simp only[hc1,hl2];exact (so0 hF2 (h1:=by(simp only[go_sem,zAf,and_self,zY];try trivial)) (h4:=by simp only[];omega))
   ·rw[hpc]at hc1;simp only[if_true]at hc1;have k4:=k3 hpc;have e4:l.map eN++[[.int .i64 (p:Int)]]=(pz.take (j+1)).map eN:=by rw[←k4,wQ];rfl
    simp only[g2,hll,q_n1,q_n2,q_n5,kS3,zA,go_sem];repeat refine sd2 ?_
    refine ⟨(p+1,10000*(i+1)+256),⟨by simp only[];omega,by simp only[];omega,by simp only[];omega⟩,by simp only[];omega,?_⟩;simp only[hc1];rw[←e4];refine Sub.of (hfz hF2) (by simp only[go_sem,zAf,and_self,zY];try trivial) ?_ (by simp[zAs,keys]) (by simp only[];omega);simp only[zAi,Tx.look,zCU,if_true,if_false,and_true,q_n1,kS3,Nat.reduceEqDiff]
 ·obtain rfl:p=312:=by omega
  have g1:decide (((64:Nat):Int)<64)=false:=rfl;have t64:List.take 64 (pz.map eN)=pz.map eN:=zQ (by simp[pz]);have t65:pz.take 64=pz:=zQ (by simp[pz]);have l64:(pz.map eN).length=64:=by simp[pz]
  rw[zIc,t65];simp only[g1,go_sem];repeat refine sd2 ?_
  exact PostF.rs (v0:=.sl ⟨L+1,q⟩ 0 64) (.inr rfl) (hw:=by simp[Wk,Tx.look,t64,l64])
theorem zS4(p:Nat)(hp:0<p∧p<1000):(∀F L nx,Con Tryz.prog 39 [.int .i64 p,.int .i64 3] F L nx nx (.int .i64 ((zEJ (enK p) 0 37%M32:Nat):Int)) [] [])∧∀F L nx,Con Tryz.prog 39 [.int .i64 p,.int .i64 2] F L nx nx (.int .i64 ((zEJ (enH p) 0 37%M32:Nat):Int)) [] []:=
 ⟨fun F L nx=>zNs (F:=F) (L:=L) (nx:=nx) p hp.2 3 (.inr rfl) _ rfl,fun F L nx=>zNs (F:=F) (L:=L) (nx:=nx) p hp.2 2 (.inl rfl) _ rfl⟩
theorem zNt{F:SF}{L nx:Nat}:Con Tryz.prog 15 [] F L nx nx (.agg (zBB hT kT)) [] []:=by
 have hP:=fun F L nx=>zL0 (F:=F) (L:=L) (nx:=nx)
 have hpl:(pz.map eN).length=64:=by simp[pz]
 refine zUU (zAg (L+1)) rfl rfl (fn:=Tryz.f15) (c:=Tryz.f15.body.getD .skip) (by kernel_rfl) (by rfl) (by kernel_rfl) rfl (by simp) ?_;intro F3 hF1 hF2;refine vcu ⟨[some (.ptr ⟨L+1,0⟩ 0 0)]++oz 31,[(⟨L+1,0⟩,.rows 53 2 true true [[.nilS,.nilS]])],10000⟩ ?_ ?_
 ·simp only[Tryz.f15,go_sem];repeat refine sd2 ?_
  exact ⟨(),(so0 hF2)⟩
 refine vcu ⟨[some (.ptr ⟨L+1,0⟩ 0 0),some (.ptr ⟨L+1,10000⟩ 0 0)]++oz 30,[(⟨L+1,0⟩,.rows 53 2 true true [[.nilS,.nilS]]),(⟨L+1,10000⟩,.rows 53 2 true false [[.sl ⟨L+1,10032⟩ 0 0,.sl ⟨L+1,10033⟩ 0 0]]),(⟨L+1,10032⟩,.rows 3 1 true true []),(⟨L+1,10033⟩,.rows 3 1 true true [])],30000⟩ ?_ ?_
 ·simp only[Tryz.f15,go_sem];repeat refine sd2 ?_
  refine ⟨(),Sub.trans (zU0 (n:=⟨L+1,10000⟩) (e:=53) (e2:=3) (wd:=2) (wd2:=1) (o:=true) (p:=true) (row:=[.nilS,.nilS]) (row1:=[.sl ⟨L+1,10032⟩ 0 0,.nilS]) (by omega) (by simp[Tx.look]) (by simp) rfl (fun c=>by
   rcases c with _|c;·exact .inr ⟨rfl,rfl⟩
   ·exact .inl rfl)) ?_⟩
  simp only[zAl,setH,go_sem];refine Sub.trans (zU0 (n:=⟨L+1,10000⟩) (e:=53) (e2:=3) (wd:=2) (wd2:=1) (o:=true) (p:=false) (row:=[.sl ⟨L+1,10032⟩ 0 0,.nilS]) (row1:=[.sl ⟨L+1,10032⟩ 0 0,.sl ⟨L+1,10033⟩ 0 0]) (by omega) (by simp[Tx.look]) (by simp) rfl (fun c=>by
   rcases c with _|_|c;·exact .inl rfl
   ·exact .inr ⟨rfl,rfl⟩
   ·exact .inl rfl)) ?_
  simp only[zAl,setH,go_sem];exact (so0 hF2)
 refine vcu ⟨[some (.ptr ⟨L+1,0⟩ 0 0),some (.ptr ⟨L+1,10000⟩ 0 0),some (.fs 1 (pz.map eN))]++oz 29,[(⟨L+1,0⟩,.rows 53 2 true true [[.nilS,.nilS]]),(⟨L+1,10000⟩,.rows 53 2 true false [[.sl ⟨L+1,10032⟩ 0 0,.sl ⟨L+1,10033⟩ 0 0]]),(⟨L+1,10032⟩,.rows 3 1 true true []),(⟨L+1,10033⟩,.rows 3 1 true true [])],40000⟩ ?_ ?_
 ·simp only[Tryz.f15,go_sem];repeat refine sd2 ?_
  refine CallVC.same (hP _ _ _) ?_;simp only[go_sem];repeat refine sd2 ?_
  exact ⟨(),(so0 hF2)⟩
 refine VT.of (zAg (L+1)) ?_;simp only[Tryz.f15,go_sem];repeat refine sd2 ?_
 refine loopK.intro _ _ (I:=fun z:Nat×Nat×Nat=>⟨[some (.ptr ⟨L+1,0⟩ 0 0),some (.ptr ⟨L+1,10000⟩ 0 0),some (.fs 1 (pz.map eN)),some (.int .i64 (z.1:Int))]++oz 28,[(⟨L+1,0⟩,.rows 53 2 true true [[.nilS,.nilS]]),(⟨L+1,10000⟩,.rows 53 2 true false [[.sl ⟨L+1,z.2.1⟩ 0 (min z.1 8),.sl ⟨L+1,z.2.2⟩ 0 z.1]]),(⟨L+1,z.2.1⟩,.rows 3 1 true true ((hT.take (min z.1 8)).map eN)),(⟨L+1,z.2.2⟩,.rows 3 1 true true ((kT.take z.1).map eN))],10000*(4+z.1+1)⟩)
  (pre:=fun z=>z.1≤64∧(10000<z.2.1∧z.2.1<10000*(4+z.1+1))∧(10000<z.2.2∧z.2.2<10000*(4+z.1+1))∧z.2.1≠z.2.2) (μ:=fun z=>64-z.1) (0,10032,10033) ⟨by simp,by simp,by simp,by simp⟩ ?_ ?_
 ·exact (so0 hF2 (h1:=by(simp only[go_sem,zAf,and_self,zW];try trivial)))
 rintro ⟨j,a,b⟩ ⟨hj,⟨ha0,ha⟩,⟨hb0,hb⟩,hab⟩
 simp only at hj ha0 ha hb0 hb hab ⊢;obtain ⟨i,hi⟩:∃i,i=4+j:=⟨_,rfl⟩;rw[←hi]at ha hb ⊢;have hi1:4+(j+1+1)=i+1+1:=by omega
 have ab:(a=b)=False:=eq_false hab;have ba:(b=a)=False:=eq_false (Ne.symm hab);have hq:=ha;have a_0:(a=0)=False:=by apply eq_false;omega
 have n0_a:(0=a)=False:=by apply eq_false;omega
 have a_10000:(a=10000)=False:=by apply eq_false;omega
 have n10000_a:(10000=a)=False:=by apply eq_false;omega
 obtain ⟨a_n1,a_n2,a_n3,a_n4,a_n5⟩:=nqL L (i:=i) (p:=a) (by omega);clear hq;have hq:=hb;have b_0:(b=0)=False:=by apply eq_false;omega
 have n0_b:(0=b)=False:=by apply eq_false;omega
 have b_10000:(b=10000)=False:=by apply eq_false;omega
 have n10000_b:(10000=b)=False:=by apply eq_false;omega
 obtain ⟨b_n1,b_n2,b_n3,b_n4,b_n5⟩:=nqL L (i:=i) (p:=b) (by omega);have kl:kT.length=64:=zJO;have w1:(10000*(i+1)=9328)=False:=eq_false (by omega);have w2:(10000*(i+1)=9712)=False:=eq_false (by omega);have hl8:hT.length=8:=zRE.1;have lk:((kT.take j).map eN).length=j:=by rw[zG,wI,kl];omega
 have lh:((hT.take (min j 8)).map eN).length=min j 8:=by rw[zG,wI,hl8];omega
 by_cases hlt:j<64
 ·have g1:decide ((j:Int)<64)=true:=dT (by omega);have gp:=zFM pz j (by simp[pz];omega);obtain ⟨r3,r2⟩:=zS4 (pz.getD j 0) (zPj j hlt);have ek:((kT.take j).map eN)++[[.int .i64 ((zEJ (enK (pz.getD j 0)) 0 37%M32:Nat):Int)]]=(kT.take (j+1)).map eN:=by
   have:kT[j]'(by omega)=zEJ (enK (pz.getD j 0)) 0 37%M32:=by
    have h1:kC[j]'(by rw[zPa];omega)=zEJ (enK (pz[j]'(by simp[pz];omega))) 0 37%M32:=by simp only[kC,qE]
    have h2:pz.getD j 0=pz[j]'(by simp[pz];omega):=by simp[zE,show j<pz.length by simp[pz];omega]
    rw[h2,←h1];congr 1
   rw[uX (by omega),wQ,this];rfl
  by_cases h8:j<8
  ·have g2:decide ((j:Int)<8)=true:=dT (by omega);have eh:((hT.take (min j 8)).map eN)++[[.int .i64 ((zEJ (enH (pz.getD j 0)) 0 37%M32:Nat):Int)]]=(hT.take (min (j+1) 8)).map eN:=by
    have:hT[j]'(by omega)=zEJ (enH (pz.getD j 0)) 0 37%M32:=by
     have h1:hC[j]'(by rw[zPb];omega)=zEJ (enH (pz[j]'(by simp[pz];omega))) 0 37%M32:=by simp only[hC,qE,List.getElem_take]
     have h2:pz.getD j 0=pz[j]'(by simp[pz];omega):=by simp[zE,show j<pz.length by simp[pz];omega]
     rw[h2,←h1];congr 1
    rw[uN (by omega),uN (by omega),uX (by omega),wQ,this];rfl
   have m1:min j 8=j:=by omega
   have m2:min (j+1) 8=j+1:=by omega
   rw[m1]at lh eh ⊢;rw[m2]at eh;obtain ⟨U,hU⟩:∃U,U=(hT.take j).map eN:=⟨_,rfl⟩;obtain ⟨W,hW⟩:∃W,W=(kT.take j).map eN:=⟨_,rfl⟩;rw[←hU]at lh eh ⊢;rw[←hW]at lk ek ⊢;simp only[g1,gp,hpl,n10000_a,n10000_b,zA,go_sem];repeat refine sd2 ?_
   refine CallVC.same (r3 _ _ _) ?_;simp only[g2,gp,hpl,lk,ba,n10000_a,a_n1,b_0,b_10000,n10000_b,b_n1,b_n2,b_n5,nB,kS2,kS3,zA,go_sem];repeat refine sd2 ?_
   refine ⟨zAA (fun x=>if x.i=a then 1 else if x.i=b then 2 else if x.i=10000 then 3 else if x.i=0 then 4 else x.i%10000+100) (by simp only[zA0,List.map,if_true,if_false,uK,Nat.reduceMod,ba,n10000_a,a_n1,b_0,b_10000,n10000_b,b_n1,Nat.reduceEqDiff];kernel_rfl),?_⟩;repeat refine sd2 ?_
   refine CallVC.same (r2 _ _ _) ?_;simp only[lh,ab,a_0,a_10000,n10000_a,a_n1,a_n2,a_n5,n10000_b,b_n1,nB,kS2,kS3,zA,go_sem];repeat refine sd2 ?_
   refine ⟨zAA (fun x=>if x.i=a then 1 else if x.i=b then 2 else if x.i=10000 then 3 else if x.i=0 then 4 else x.i%10000+100) (by simp only[zA0,List.map,if_true,if_false,uK,Nat.reduceMod,ab,a_0,a_10000,n10000_a,a_n1,n10000_b,b_n1,Nat.reduceEqDiff];kernel_rfl),?_⟩;repeat refine sd2 ?_
   refine ⟨(j+1,10000*(i+1)+672,10000*(i+1)+288),⟨by simp only[];omega,by simp only[];omega,by simp only[];omega,by simp only[];omega⟩,by simp only[];omega,?_⟩;simp only[];rw[←ek,m2,←eh,hi1];refine Sub.of (hfz hF2) (by simp only[go_sem,zAf,and_self,zY];try trivial) ?_ (by simp[zAs,keys]) (by simp only[];omega);simp only[zAi,Tx.look,zCU,if_true,if_false,and_true,w1,w2,n0_a,n10000_a,a_n1,n0_b,n10000_b,b_n1,kS3,Nat.reduceEqDiff]
  ·have g2:decide ((j:Int)<8)=false:=dF (by omega);have m1:min j 8=8:=by omega
   have m2:min (j+1) 8=8:=by omega
   rw[m1]at lh ⊢;obtain ⟨U,hU⟩:∃U,U=(hT.take 8).map eN:=⟨_,rfl⟩;obtain ⟨W,hW⟩:∃W,W=(kT.take j).map eN:=⟨_,rfl⟩;rw[←hU]at lh ⊢;rw[←hW]at lk ek ⊢;simp only[g1,gp,hpl,n10000_a,n10000_b,zA,go_sem];repeat refine sd2 ?_
   refine CallVC.same (r3 _ _ _) ?_;simp only[g2,lk,ba,n10000_a,a_n1,b_0,b_10000,n10000_b,b_n1,b_n2,b_n5,nB,kS2,kS3,zA,go_sem];repeat refine sd2 ?_
   refine ⟨zAA (fun x=>if x.i=a then 1 else if x.i=b then 2 else if x.i=10000 then 3 else if x.i=0 then 4 else x.i%10000+100) (by simp only[zA0,List.map,if_true,if_false,uK,Nat.reduceMod,ba,n10000_a,a_n1,b_0,b_10000,n10000_b,b_n1,Nat.reduceEqDiff];kernel_rfl),?_⟩;repeat refine sd2 ?_
   refine ⟨(j+1,a,10000*(i+1)+288),⟨by simp only[];omega,by simp only[];omega,by simp only[];omega,by simp only[];omega⟩,by simp only[];omega,?_⟩;simp only[];rw[←ek,m2,←hU,hi1];refine Sub.of (hfz hF2) (by simp only[go_sem,zAf,and_self,zY];try trivial) ?_ (by simp[zAs,keys]) (by simp only[];omega);simp only[zAi,Tx.look,zCU,if_true,if_false,and_true,w2,ab,a_0,n0_a,a_10000,n10000_a,a_n1,a_n2,n0_b,n10000_b,b_n1,kS3,Nat.reduceEqDiff]
 ·have g1:decide ((j:Int)<64)=false:=dF (by omega);obtain rfl:j=64:=by omega
  have th:hT.take (min 64 8)=hT:=zQ (by omega);have tk:kT.take 64=kT:=zQ (by omega);have h8:min 64 8=8:=rfl;rw[th,tk,h8]at *;have t8:List.take 8 (hT.map eN)=hT.map eN:=zQ (Nat.le_of_eq lh);have t64:List.take 64 (kT.map eN)=kT.map eN:=zQ (Nat.le_of_eq lk);simp only[g1,n0_a,n10000_a,n0_b,n10000_b,zA,go_sem];repeat refine sd2 ?_
  exact PostF.of (p:=True) (v0:=.agg [.sl ⟨L+1,a⟩ 0 8,.sl ⟨L+1,b⟩ 0 64]) (.inr rfl) (by simp only[go_sem]) trivial (by simp[zBB,Wk,WkL,Tx.look,t8,t64,hl8,kl,ba,a_0,a_10000,b_0,b_10000]) (by simp[zBB,wkN,zAt]) (by simp[zBB,Tx.nf,nfl]) trivial (by simp[UpdAll,keys])
def e2(x:Nat×Nat):List PV:=[.int .u8 x.1,.int .u8 x.2]
structure Pcx where
 w:Nat
 a:Nat
 b:Nat
 c:Nat
 d:Nat
 l:List (Nat×Nat)
 pl:List UInt8
def Pcx.row(p:Pcx):List PV:=[.int .u8 p.w,.int .u32 p.a,.int .u32 p.b,.int .u32 p.c,.int .u32 p.d,.fs 2 (p.l.map e2),.str p.pl]
structure Pcx.Ok (p:Pcx):Prop where
 w:p.w<256
 a:p.a<4294967296
 b:p.b<4294967296
 c:p.c<4294967296
 d:p.d<4294967296
 l:∀x∈p.l,x.1<256∧x.2<256
 ll:p.l.length≤maxLen
 pl:p.pl.length≤maxLen
def Pcx.lo(p:Pcx):Bool:=decide (0<Go.Sx.zFU .and .u8 p.w 32)
def Pcx.x(p:Pcx)(i:Nat):Nat×Nat:=p.l.getD i (0,0)
def Pcx.fa(p:Pcx):Nat→Nat
 |0=>p.b%50000
 |i+1=>p.fa i+1+(p.x i).2
def Pcx.sk(p:Pcx)(i:Nat):List (Nat×Nat):=(List.range i).map fun j=>(p.fa j,(p.x j).1*(p.x j).2)
def Pcx.n(p:Pcx):Nat:=min p.l.length 30
theorem Pcx.Ok.x{p:Pcx}(h:p.Ok)(i:Nat):(p.x i).1<256∧(p.x i).2<256:=by
 unfold Pcx.x;rw[zE];cases hi:p.l[i]? with
 |none=>simp
 |some y=>simpa using h.l y (zO hi)
section
variable {F : SF} {L nx : Nat}
end
end Go.Proofs.YtifhjhbfhdcahaaGreat
end
section
namespace Go.Proofs.YtifhjhbfhdcahaaGreat
open Go.Tx
set_option maxRecDepth 100000
set_option maxHeartbeats 16000000
def zLJ(s:List UInt8)(p n:Nat):Nat:=if p+n≤s.length then zBW ((s.drop p).take n) else 0
theorem zHN{F:SF}{L nx:Nat}(s:List UInt8)(p n:Nat)(a b:Int)(ha:a=p)(hb:b=n)(hn:n≤7)(hp:p≤1000000)(hs:s.length≤1000000):Con Tryz.prog 137 [.str s,.int .i64 a,.int .i64 b] F L nx nx (.int .i64 (zLJ s p n)) [] []:=by
 subst ha hb;refine bdy Tryz.f137 ?_;intro F3 hF1 hF2;unfold zLJ;by_cases h:p+n≤s.length
 ·have f1:decide ((s.length:Int)<(p:Int)+n)=false:=dF (by omega);have e1:((p:Int)+n).toNat-p=n:=by omega
  have hl:((s.drop p).take n).length≤7:=by rw[wI];omega
  rw[if_pos h];simp only[Tryz.f137,f1,e1,go_sem];repeat refine sd2 ?_
  refine CallVC.same (zFj ((s.drop p).take n) hl) ?_;simp only[go_sem];repeat refine sd2 ?_
  exact PostF.rs (v0:=.int .i64 (zBW ((s.drop p).take n))) (.inr rfl)
 ·have f1:decide ((s.length:Int)<(p:Int)+n)=true:=dT (by omega);rw[if_neg h];simp only[Tryz.f137,f1,zW,go_sem];repeat refine sd2 ?_
  exact PostF.rs (v0:=.int .i64 0) (.inr rfl)
theorem zPG{F:SF}{L nx:Nat}(s:List UInt8)(p:Nat)(a:Int)(ha:a=p)(hs:s.length≤1000000):Con Tryz.prog 138 [.str s,.int .i64 a] F L nx nx (.str (s.drop p)) [] []:=by
 subst ha;refine bdy Tryz.f138 ?_;intro F3 hF1 hF2;simp only[Tryz.f138,go_sem];repeat refine sd2 ?_
 have e1:List.take (s.length-(min (p:Int) s.length).toNat) (List.drop (min (p:Int) s.length).toNat s)=s.drop p:=by
  rw[zQ (by simp)];by_cases h:p≤s.length;·rw[show (min (p:Int) s.length).toNat=p by omega]
  ·rw[show (min (p:Int) s.length).toNat=s.length by omega,List.drop_eq_nil_of_le (zH _),List.drop_eq_nil_of_le (by omega)]
 rw[e1];exact PostF.rs (v0:=.str (s.drop p)) (.inr rfl)
def zQ2(c:Ckx):Ini:=⟨zLJ c.bd 0 4,zLJ c.bd 4 4,zLJ c.bd 8 2,zLJ c.bd 10 2,zLJ c.bd 12 4,c.bd.drop 16⟩
def zIk(c:Ckx):PV:=if c.kd=1∨c.kd=2 then (if (zQ2 c).ok=true∧zCq (zQ2 c).ck=c.kd∧(0:Int)=c.fl∧(zQ2 c).oct=c.bd then .tup [.agg (zQ2 c).row,.int .i64 0] else .tup [.agg zIni.row,.int .i64 5]) else .tup [.agg zIni.row,.int .i64 2]
theorem zHO{F:SF}{L nx:Nat}(c:Ckx)(hl:c.bd.length≤1000000):Con Tryz.prog 118 [.agg c.row] F L nx nx (zIk c) [] []:=by
 unfold zIk;by_cases hk:c.kd=1∨c.kd=2
 ·rw [if_pos hk];have f1:(c.kd !=1)=false∨((c.kd !=1)=true∧(c.kd !=2)=false):=by
   rcases hk with h|h;·exact .inl (by rw[h];rfl)
   ·exact .inr ⟨by rw[h];rfl,by rw[h];rfl⟩
  obtain ⟨d,hd⟩:∃d,d=zQ2 c:=⟨_,rfl⟩;rw[←hd];have hR:=fun F L nx=>zDY (F:=F) (L:=L) (nx:=nx) d
  have hrow:[PV.int .i64 (zLJ c.bd 0 4),.int .i64 (zLJ c.bd 4 4),.int .i64 (zLJ c.bd 8 2),.int .i64 (zLJ c.bd 10 2),.int .i64 (zLJ c.bd 12 4),.str (c.bd.drop 16)]=d.row:=by rw[hd];rfl
  have hrl:d.row.length=6:=rfl;have hrn:nfl d.row=true:=rfl;simp only[Ckx.row];refine bdy Tryz.f118 ?_;intro F3 hF1 hF2;simp only[Tryz.f118,go_sem];rcases f1 with f1|⟨f1,f2⟩;all_goals
   first
    |simp only[f1,f2,go_sem]
    |simp only[f1,go_sem]
   repeat refine sd2 ?_
   refine CallVC.same (zHN c.bd 0 4 0 4 rfl rfl (by omega) (by omega) hl) ?_;simp only[go_sem];repeat refine sd2 ?_
   refine CallVC.same (zHN c.bd 4 4 4 4 rfl rfl (by omega) (by omega) hl) ?_;simp only[go_sem];repeat refine sd2 ?_
   refine CallVC.same (zHN c.bd 8 2 8 2 rfl rfl (by omega) (by omega) hl) ?_;simp only[go_sem];repeat refine sd2 ?_
   refine CallVC.same (zHN c.bd 10 2 10 2 rfl rfl (by omega) (by omega) hl) ?_;simp only[go_sem];repeat refine sd2 ?_
   refine CallVC.same (zHN c.bd 12 4 12 4 rfl rfl (by omega) (by omega) hl) ?_;simp only[go_sem];repeat refine sd2 ?_
   refine CallVC.same (zPG c.bd 16 16 rfl hl) ?_;simp only[hrow,go_sem];repeat refine sd2 ?_
   refine CallVC.same (hR _ _ _) ?_;cases hok:d.ok with
   |false=>
    have g1:(!false)=true:=rfl;rw[if_neg (by simp)];simp only[g1,go_sem];refine ⟨zAA (fun x=>x.i) (by kernel_rfl),?_⟩;repeat refine sd2 ?_
    exact ps0 (by simp only[zIni,Ini.row,go_sem]) (hf:=by simp[zIni,Ini.row,Tx.nf,nfl])
   | true=>
    have g1:(!true)=false:=rfl;simp only[g1,go_sem];refine CallVC.same (zDZ d hok) ?_;simp only[go_sem];refine ⟨zAA (fun x=>x.i) (by kernel_rfl),?_⟩;repeat refine sd2 ?_
    by_cases hq:zCq d.ck=c.kd∧(0:Int)=c.fl∧d.oct=c.bd
    ·have b1:(!(zCq d.ck==c.kd&&((0:Int)==c.fl&&d.oct==c.bd)))=false:=by rw[hq.1,hq.2.1,hq.2.2];simp
     rw[if_pos hq];simp only[b1,hrl,hrn,go_sem];repeat refine sd2 ?_
     exact ps0 (hf:=by simp[Tx.nf,nfl,hrn])
    ·have b1:(!(zCq d.ck==c.kd&&((0:Int)==c.fl&&d.oct==c.bd)))=true:=by
      cases hb:(zCq d.ck==c.kd&&((0:Int)==c.fl&&d.oct==c.bd)) with
      |false=>rfl
      |true=>
       simp only[zC,beq_iff_eq]at hb;exact absurd ⟨hb.1,hb.2.1,hb.2.2⟩ hq
     rw[if_neg hq];simp only[b1,hrl,hrn,go_sem];repeat refine sd2 ?_
     exact ps0 (by simp only[zIni,Ini.row,go_sem]) (hf:=by simp[zIni,Ini.row,Tx.nf,nfl])
 ·rw[if_neg hk];have f1:(c.kd !=1)=true:=by simp;intro h;exact hk (.inl h)
  have f2:(c.kd !=2)=true:=by simp;intro h;exact hk (.inr h)
  simp only[Ckx.row];refine bdy Tryz.f118 ?_;intro F3 hF1 hF2;simp only[Tryz.f118,f1,f2,go_sem];repeat refine sd2 ?_
  exact ps0 (by simp only[zIni,Ini.row,go_sem]) (hf:=by simp[zIni,Ini.row,Tx.nf,nfl])
theorem zHP{s:List UInt8}{p n:Nat}(h:p+n≤s.length):zLJ s p n=zBW ((s.drop p).take n):=by unfold zLJ;rw[if_pos h]
theorem zEv(d:Ini):d.oct.length=16+d.ck.length:=by
 unfold Ini.oct zJd;simp only[zU,zAL];try omega
theorem zJX(c:Ckx):zIk c=zBL c:=by
 unfold zIk zBL;by_cases hk:c.kd=1∨c.kd=2;rotate_left;·rw[if_neg hk,if_neg hk]
 rw[if_pos hk,if_pos hk];by_cases hl:16≤c.bd.length;rotate_left
 ·rw[if_neg,if_neg]
  ·unfold zBX;simp only[zC,decide_eq_true_eq]
   rintro ⟨h,_⟩
   exact hl h
  ·rintro ⟨_,_,_,h⟩
   have:=congrArg List.length h;rw[zEv]at this;omega
 have e:zQ2 c=zBj c:=by
  unfold zQ2 zBj;rw[zHP (by omega),zHP (by omega),zHP (by omega),zHP (by omega),zHP (by omega),uU]
 rw[e];unfold zBX;simp only[zC,decide_eq_true_eq,hl,true_and]
end Go.Proofs.YtifhjhbfhdcahaaGreat
end
