/- Lemmas for the walk: GK97, GK98, GK99. -/
import Derived.Test.YtifhjhbfhdcahaaGreatP17
set_option linter.all false
section
namespace Go.Proofs.YtifhjhbfhdcahaaGreat
open Go.Tx
set_option maxRecDepth 100000
set_option maxHeartbeats 16000000
theorem zR8(d e:Ini):((d.tag==e.tag)&&((d.win==e.win)&&((d.out==e.out)&&((d.inn==e.inn)&&((d.tsn==e.tsn)&&d.ck==e.ck)))))=decide (d=e):=by
 obtain ⟨a,b,c,x,f,k⟩:=d;obtain ⟨a2,b2,c2,x2,f2,k2⟩:=e;rw[qB];simp
theorem zO4{F:SF}{L nx:Nat}(m:Nm)(hm:m.l≤L)(g:Gx)(now:Int)(p:Pkx)(c:Ckx)(hl:c.bd.length≤1000000)(hg:g.hd=true)(hn:0≤now∧now≤1099511627776)(hF:F m=some (.rows 123 22 true true [g.mrow now .nilS])):
  Con Tryz.prog 103 [.ptr m 0 0,.agg p.row,.agg c.row] F L nx nx (.tup []) [(m,.rows 123 22 true true [(zC9 g now c.bd).1.mrow now (zAV (zC9 g now c.bd).2)])] [m]:=by
 have m1:∀k,(m=(⟨L+1,k⟩:Nm))=False:=zAI hm;have m2:∀k,((⟨L+1,k⟩:Nm)=m)=False:=zAF hm;rw[zUR]at hg;obtain ⟨b,hbd⟩:∃b,b=c.bd:=⟨_,rfl⟩;rw[←hbd]at hl ⊢;obtain ⟨q,hq⟩:∃q,q=zC9 g now b:=⟨_,rfl⟩;rw[←hq];have hF0:=hF;simp only[Gx.mrow,Gx.row,Ckx.row,Pkx.row,zJ,zF]at hF ⊢;refine zUU (zAg (L+1)) rfl rfl (fn:=Tryz.f103) (c:=Tryz.f103.body.getD .skip) (by kernel_rfl) (by rfl) (by kernel_rfl) rfl (by simp;omega) ?_;intro F3 hF1 hF2;have kq:=(hF1 m (by simp)).trans hF;have kq0:=(hF1 m (by simp)).trans hF0;rw[←hbd];refine vcu ⟨[some (.ptr m 0 0),none,none,none,none,some (.ptr ⟨L+1,32⟩ 0 0)]++oz 116,[(⟨L+1,32⟩,.rows 73 3 true true [[.int .i64 c.kd,.int .i64 c.fl,.str b]])],10000⟩ ?_ ?_
 ·simp only[Tryz.f103,go_sem];repeat refine sd2 ?_
  refine ⟨(),(so0 hF2)⟩
 refine vcu ⟨[some (.ptr m 0 0),none,none,none,none,some (.ptr ⟨L+1,32⟩ 0 0),some (.ptr ⟨L+1,10032⟩ 0 0)]++oz 115,[(⟨L+1,32⟩,.rows 73 3 true true [[.int .i64 c.kd,.int .i64 c.fl,.str b]]),(⟨L+1,10032⟩,.rows 66 3 false true [[.int .i64 6,.int .i64 16,.int .i64 40]])],20000⟩ ?_ ?_
 ·simp only[Tryz.f103,go_sem];repeat refine sd2 ?_
  refine ⟨(),(Sub.unown [⟨L+1,10032⟩]).trans ((so0 hF2 (h2:=by simp[zAi,Tx.look,zAl,setH,unown]) (h3:=by simp[zAs,keys,zAl,setH,unown,Tx.look])))⟩
 by_cases hlen:b.length=62;rotate_left
 ·have hq2:q=(g,[]):=by
   rw[hq];unfold zC9;simp only[hlen,false_and,if_false]
  subst hq2;have n1:(((b.length:Nat):Int) !=62)=true:=by simp;omega
  refine VT.of (zAg (L+1)) ?_;have kz:zAV []= .nilS:=rfl;simp only[Tryz.f103,n1,kz,Int.reduceAdd,go_sem];repeat refine sd2 ?_
  exact po0 (.tup []) ⟨hm,by simp[Tx.look,BW,m1,kq],trivial⟩ (by simp[UpdAll,keys,m2])
 have n1:(((b.length:Nat):Int) !=62)=false:=by simp;omega
 obtain ⟨t,ht⟩:∃t:Nat,t=zBW (b.take 6):=⟨_,rfl⟩;have htl:t<256^6:=by
  have:=zIW (b.take 6);rw[wI,uN (by omega)]at this;rw[ht];exact this
 obtain ⟨pb,hpb⟩:∃pb,pb=(b.drop 6).take 16:=⟨_,rfl⟩;have hpl:pb.length=16:=by rw[hpb,wI,wU];omega
 obtain ⟨cc,hcc⟩:∃cc:Ckx,cc=⟨1,0,pb⟩:=⟨_,rfl⟩;have hqe:q=(if b.length=62∧zBX cc=true∧zEg (t:Int)=true∧ckS g pb (t:Int)=b then
   if g.st≤3∧(now<(t:Int)∨60000<now-(t:Int)) then (g,zA9 g (zBj cc).tag ⟨6,0,[]⟩)
   else if g.st≤3 then ({zAT g 4 with peer:=zBj cc},zAh {zAT g 4 with peer:=zBj cc} 11)
   else if g.st=4∧zBj cc=g.peer then (g,zAh g 11)
   else (g,[])
  else (g,[])):=by
  rw[hq,hcc,hpb,ht];rfl
 have p0:=fun(F:SF) (nx:Nat) (h1:F ⟨L+1,10032⟩=_) (h2:F ⟨L+1,32⟩=_)=>zK3 (F:=F) (L:=L+1) (nx:=nx) ⟨L+1,10032⟩ ⟨L+1,32⟩ (by simp) (by simp) true c.kd c.fl b hlen 0 (by omega) h1 h2
 have p1:=fun(F:SF) (nx:Nat) (h1:F ⟨L+1,10032⟩=_) (h2:F ⟨L+1,32⟩=_)=>zK3 (F:=F) (L:=L+1) (nx:=nx) ⟨L+1,10032⟩ ⟨L+1,32⟩ (by simp) (by simp) true c.kd c.fl b hlen 1 (by omega) h1 h2
 rw[if_pos rfl]at p0;rw[if_neg (by simp),←hpb]at p1;have b6:(b.take 6).length=6:=by rw[wI];omega
 have hu:=fun F L nx=>zKr (F:=F) (L:=L) (nx:=nx) (b.take 6) 0 6 (by omega) (by omega) (by omega) (by omega) (by omega)
 have hu1:zBW (((b.take 6).drop (0:Int).toNat).take (6:Int).toNat)=t:=by
  rw[ht];show zBW (((b.take 6).drop 0).take 6)=_;rw[uU,zQ (by omega)]
 rw[hu1]at hu;simp only[rdP]at hu;have hI:=fun F L nx=>zEq (F:=F) (L:=L) (nx:=nx) cc (by rw[hcc];simp only[];omega)
 have hiv:zBL cc=(if zBX cc then .tup [.agg (zBj cc).row,.int .i64 0] else .tup [.agg zIni.row,.int .i64 5]):=by unfold zBL;rw[if_pos (by rw[hcc];exact .inl rfl)]
 rw[hiv]at hI;have hcr:cc.row=[.int .i64 1,.int .i64 0,.str pb]:=by rw[hcc];rfl
 rw[hcr]at hI;have e5:((5:Int) !=0)=true:=rfl;have e0:((0:Int) !=0)=false:=rfl;have hT:=fun F L nx=>zGS (F:=F) (L:=L) (nx:=nx) (t:Int)
 have hM:=fun(F:SF) (nx:Nat) (hF:F m=_)=>zFm (F:=F) (L:=L+1) (nx:=nx) m (by omega) true g now .nilS pb t htl (by omega) (by have:=zUh (zBz hg.2.2.2.2.2.1).1;omega) ⟨by omega,by omega⟩ ⟨by omega,by omega⟩ (by omega) hF
 obtain ⟨ck,hck⟩:∃ck,ck=ckS g pb t:=⟨_,rfl⟩;simp only[←hck]at hM;simp only[Gx.mrow,Gx.row,zJ,zF]at hM;refine vcu ⟨[some (.ptr m 0 0),none,none,none,none,some (.ptr ⟨L+1,32⟩ 0 0),some (.ptr ⟨L+1,10032⟩ 0 0)]++oz 115,[(⟨L+1,32⟩,.rows 73 3 true true [[.int .i64 c.kd,.int .i64 c.fl,.str b]]),(⟨L+1,10032⟩,.rows 66 3 false true [[.int .i64 6,.int .i64 16,.int .i64 40]])],30000⟩ ?_ ?_
 ·simp only[Tryz.f103,n1,Int.reduceAdd,go_sem];repeat refine sd2 ?_
  refine ⟨(),(so0 hF2)⟩
 refine vcu ⟨[some (.ptr m 0 0),none,none,none,none,some (.ptr ⟨L+1,32⟩ 0 0),none,some (.fn (.func 131) [] [.ptr ⟨L+1,10032⟩ 0 0,.ptr ⟨L+1,32⟩ 0 0])]++oz 114,[(⟨L+1,32⟩,.rows 73 3 true true [[.int .i64 c.kd,.int .i64 c.fl,.str b]]),(⟨L+1,10032⟩,.rows 66 3 false true [[.int .i64 6,.int .i64 16,.int .i64 40]])],40000⟩ ?_ ?_
 ·simp only[Tryz.f103,go_sem];repeat refine sd2 ?_
  refine ⟨(),(so0 hF2)⟩
 refine vcu ⟨[some (.ptr m 0 0),none,none,none,none,some (.ptr ⟨L+1,32⟩ 0 0),none,some (.fn (.func 131) [] [.ptr ⟨L+1,10032⟩ 0 0,.ptr ⟨L+1,32⟩ 0 0]),some (.int .i64 t)]++oz 113,[(⟨L+1,32⟩,.rows 73 3 true true [[.int .i64 c.kd,.int .i64 c.fl,.str b]]),(⟨L+1,10032⟩,.rows 66 3 false true [[.int .i64 6,.int .i64 16,.int .i64 40]])],50000⟩ ?_ ?_
 ·simp only[Tryz.f103,go_sem];repeat refine sd2 ?_
  refine CallVC.same (p0 _ _ (by simp[Tx.look]) (by simp[Tx.look])) ?_;simp only[go_sem];repeat refine sd2 ?_
  refine CallVC.same (hu _ _ _) ?_;simp only[go_sem];repeat refine sd2 ?_
  refine ⟨(),(so0 hF2)⟩
 cases hok:zBX cc
 ·rw[hok,if_neg (by simp)]at hI;simp only[Ini.row,zIni]at hI;refine vcu ⟨[some (.ptr m 0 0),none,none,none,none,some (.ptr ⟨L+1,32⟩ 0 0),none,some (.fn (.func 131) [] [.ptr ⟨L+1,10032⟩ 0 0,.ptr ⟨L+1,32⟩ 0 0]),some (.int .i64 t),none,none,some (.ptr ⟨L+1,50160⟩ 0 0),some (.int .i64 5)]++oz 109,[(⟨L+1,32⟩,.rows 73 3 true true [[.int .i64 c.kd,.int .i64 c.fl,.str b]]),(⟨L+1,10032⟩,.rows 66 3 false true [[.int .i64 6,.int .i64 16,.int .i64 40]]),(⟨L+1,50160⟩,.rows 26 6 true true [[.int .i64 0,.int .i64 0,.int .i64 0,.int .i64 0,.int .i64 0,.str []]])],60000⟩ ?_ ?_
  ·simp only[Tryz.f103,go_sem];repeat refine sd2 ?_
   refine CallVC.same (p1 _ _ (by simp[Tx.look]) (by simp[Tx.look])) ?_;simp only[go_sem];repeat refine sd2 ?_
   refine CallVC.same (hI _ _ _) ?_;simp only[go_sem];repeat refine sd2 ?_
   refine ⟨(),(so0 hF2)⟩
  have hq2:q=(g,[]):=by
   rw[hqe,if_neg (by simp[hok])]
  subst hq2;have kz:zAV []= .nilS:=rfl;refine VT.of (zAg (L+1)) ?_;simp only[Tryz.f103,kz,e5,go_sem];repeat refine sd2 ?_
  refine ⟨zAA (fun x=>if x=m then 1 else x.i+2) (by simp only[zA0,List.map];kernel_rfl),?_⟩;exact po0 (.tup []) ⟨hm,by simp[Tx.look,BW,m1,kq],trivial⟩ (by simp[UpdAll,keys,m2])
 rw[hok,if_pos rfl]at hI;simp only[Ini.row]at hI;refine vcu ⟨[some (.ptr m 0 0),none,none,none,none,some (.ptr ⟨L+1,32⟩ 0 0),none,some (.fn (.func 131) [] [.ptr ⟨L+1,10032⟩ 0 0,.ptr ⟨L+1,32⟩ 0 0]),some (.int .i64 t),none,none,some (.ptr ⟨L+1,50160⟩ 0 0),some (.int .i64 0)]++oz 109,[(⟨L+1,32⟩,.rows 73 3 true true [[.int .i64 c.kd,.int .i64 c.fl,.str b]]),(⟨L+1,10032⟩,.rows 66 3 false true [[.int .i64 6,.int .i64 16,.int .i64 40]]),(⟨L+1,50160⟩,.rows 26 6 true true [(zBj cc).row])],60000⟩ ?_ ?_
 ·simp only[Tryz.f103,go_sem];repeat refine sd2 ?_
  refine CallVC.same (p1 _ _ (by simp[Tx.look]) (by simp[Tx.look])) ?_;simp only[go_sem];repeat refine sd2 ?_
  refine CallVC.same (hI _ _ _) ?_;simp only[go_sem];repeat refine sd2 ?_
  refine ⟨(),(so0 hF2 (h2:=by simp[zAi,Tx.look,Ini.row]))⟩
 cases htm:zEg (t:Int)
 ·rw[htm]at hT;have hq2:q=(g,[]):=by
   rw[hqe,if_neg (by simp[htm])]
  subst hq2;have kz:zAV []= .nilS:=rfl;refine VT.of (zAg (L+1)) ?_;simp only[Tryz.f103,kz,e0,go_sem];repeat refine sd2 ?_
  refine CallVC.same (hT _ _ _) ?_;simp only[go_sem];repeat refine sd2 ?_
  refine ⟨zAA (fun x=>if x=m then 1 else x.i+2) (by simp only[zA0,List.map];kernel_rfl),?_⟩;exact po0 (.tup []) ⟨hm,by simp[Tx.look,BW,m1,kq],trivial⟩ (by simp[UpdAll,keys,m2])
 rw[htm]at hT;by_cases hkb:ck=b;rotate_left
 ·have hkb2:(ck==b)=false:=by simpa using hkb
  have hq2:q=(g,[]):=by
   rw[hqe,if_neg (by rw[←hck];simp[hkb])]
  subst hq2;have kz:zAV []= .nilS:=rfl;refine VT.of (zAg (L+1)) ?_;simp only[Tryz.f103,kz,e0,go_sem];repeat refine sd2 ?_
  refine CallVC.same (hT _ _ _) ?_;simp only[go_sem];repeat refine sd2 ?_
  refine CallVC.same (p1 _ _ (by simp[Tx.look]) (by simp[Tx.look])) ?_;simp only[go_sem];repeat refine sd2 ?_
  refine CallVC.same (hM _ _ (by simp[kq,m1])) ?_;simp only[hkb2,go_sem];repeat refine sd2 ?_
  refine ⟨zEG m2,?_⟩;exact po0 (.tup []) ⟨hm,by simp[Tx.look,BW,m1,kq],trivial⟩ (by simp[UpdAll,keys,m2])
 have hkb2:(ck==b)=true:=by simpa using hkb
 refine vcu ⟨[some (.ptr m 0 0),none,none,none,none,some (.ptr ⟨L+1,32⟩ 0 0),none,some (.fn (.func 131) [] [.ptr ⟨L+1,10032⟩ 0 0,.ptr ⟨L+1,32⟩ 0 0]),some (.int .i64 t),none,none,some (.ptr ⟨L+1,50160⟩ 0 0),some (.int .i64 0)]++oz 109,[(⟨L+1,32⟩,.rows 73 3 true true [[.int .i64 c.kd,.int .i64 c.fl,.str b]]),(⟨L+1,10032⟩,.rows 66 3 false true [[.int .i64 6,.int .i64 16,.int .i64 40]]),(⟨L+1,50160⟩,.rows 26 6 true true [(zBj cc).row])],70000⟩ ?_ ?_
 ·simp only[Tryz.f103,e0,go_sem];repeat refine sd2 ?_
  refine CallVC.same (hT _ _ _) ?_;simp only[go_sem];repeat refine sd2 ?_
  refine CallVC.same (p1 _ _ (by simp[Tx.look]) (by simp[Tx.look])) ?_;simp only[go_sem];repeat refine sd2 ?_
  refine CallVC.same (hM _ _ (by simp[kq,m1])) ?_;simp only[hkb2,go_sem];repeat refine sd2 ?_
  refine ⟨zEG m2,(),(so0 hF2)⟩
 clear hM p0 p1 hu hI hT;rw[zBk]at htm;have hcond:b.length=62∧True∧True∧ckS g pb (t:Int)=b:=⟨hlen,trivial,trivial,by rw[←hck,hkb]⟩;rw[hok]at hqe;rw[if_pos ⟨hlen,rfl,(zBk _).2 htm,by rw[←hck,hkb]⟩]at hqe;refine VT.of (zAg (L+1)) ?_;by_cases hs:g.st≤3
 ·have d3:decide (g.st≤3)=true:=dT hs;by_cases ha:now<(t:Int)
  ·have a1:decide ((t:Int)>now)=true:=dT (by omega);have a1':decide (now<(t:Int))=true:=dT ha;rw[if_pos ⟨hs,by omega⟩]at hqe;subst hqe;have ht:=fun(F:SF) (nx:Nat) (hF:F m=_)=>zEO (F:=F) (L:=L+1) (nx:=nx) m (by omega) g now (zBj cc).tag ⟨6,0,[]⟩ hF
   obtain ⟨o,hoo⟩:∃o,o=zAV (zA9 g (zBj cc).tag ⟨6,0,[]⟩):=⟨_,rfl⟩;rw[←hoo];simp only[←hoo]at ht;simp only[Gx.mrow,Gx.row,Ckx.row,Ini.row,zJ,zF]at ht ⊢;simp only[Tryz.f103,kq,m1,d3,a1,go_sem];repeat refine sd2 ?_
   refine CallVC.same (ht _ _ (by simp[kq,m1])) ?_;simp only[m1,go_sem];repeat refine sd2 ?_
   exact po0 (.tup []) ⟨hm,by simp[Tx.look,BW,m1],trivial⟩ (by simp[UpdAll,keys,m2])
  have a1:decide ((t:Int)>now)=false:=dF (by omega);have a1':decide (now<(t:Int))=false:=dF ha;by_cases hb9:60000<now-(t:Int)
  ·have a2:decide (now-(t:Int)>60000)=true:=dT (by omega);have a2':decide (60000<now-(t:Int))=true:=dT hb9;rw[if_pos ⟨hs,by omega⟩]at hqe;subst hqe;have ht:=fun(F:SF) (nx:Nat) (hF:F m=_)=>zEO (F:=F) (L:=L+1) (nx:=nx) m (by omega) g now (zBj cc).tag ⟨6,0,[]⟩ hF
   obtain ⟨o,hoo⟩:∃o,o=zAV (zA9 g (zBj cc).tag ⟨6,0,[]⟩):=⟨_,rfl⟩;rw[←hoo];simp only[←hoo]at ht;simp only[Gx.mrow,Gx.row,Ckx.row,Ini.row,zJ,zF]at ht ⊢;simp only[Tryz.f103,kq,m1,d3,a1,a2,go_sem];repeat refine sd2 ?_
   refine CallVC.same (ht _ _ (by simp[kq,m1])) ?_;simp only[m1,go_sem];repeat refine sd2 ?_
   exact po0 (.tup []) ⟨hm,by simp[Tx.look,BW,m1],trivial⟩ (by simp[UpdAll,keys,m2])
  have a2:decide (now-(t:Int)>60000)=false:=dF (by omega);have a2':decide (60000<now-(t:Int))=false:=dF hb9;rw[if_neg (by omega),if_pos hs]at hqe;subst hqe;have hr:=fun(F:SF) (nx:Nat) (hF:F m=_)=>zCH (F:=F) (L:=L+1) (nx:=nx) m (by omega) g now .nilS 4 hF
  obtain ⟨h,hh⟩:∃h:Gx,h={zAT g 4 with peer:=zBj cc}:=⟨_,rfl⟩;rw[←hh];have ht:=fun(F:SF) (nx:Nat) (hF:F m=_)=>zCl (F:=F) (L:=L+1) (nx:=nx) m (by omega) h now 11 hF
  obtain ⟨o,hoo⟩:∃o,o=zAV (zAh h 11):=⟨_,rfl⟩;simp only[];rw[←hoo];simp only[←hoo]at ht;subst hh;simp only[Gx.mrow,Gx.row,Ini.row,zAT,zJ,zF]at hr ht ⊢;simp only[Tryz.f103,kq,m1,d3,a1,a2,go_sem];repeat refine sd2 ?_
  refine CallVC.same (hr _ _ (by simp[kq,m1])) ?_;simp only[kq,m1,m2,go_sem];repeat refine sd2 ?_
  refine CallVC.same (ht _ _ (by simp[m1])) ?_;simp only[m1,go_sem];repeat refine sd2 ?_
  exact po0 (.tup []) ⟨hm,by simp[Tx.look,BW,m1],trivial⟩ (by simp[UpdAll,keys,m2])
 have d3:decide (g.st≤3)=false:=dF hs;rw[if_neg (by omega),if_neg hs]at hqe;have hie:=zR8 (zBj cc) g.peer;by_cases h4:g.st=4;rotate_left
 ·rw[if_neg (by simp[h4])]at hqe;subst hqe;have kz:zAV []= .nilS:=rfl;have s4:(g.st==4)=false:=by simp;omega
  simp only[Tryz.f103,kq,m1,d3,s4,kz,Ini.row,go_sem];repeat refine sd2 ?_
  refine ⟨zAA (fun x=>if x=m then 1 else x.i+2) (by simp only[zA0,List.map,if_true];kernel_rfl),?_⟩;exact po0 (.tup []) ⟨hm,by simp[Tx.look,BW,m1,kq],trivial⟩ (by simp[UpdAll,keys,m2])
 have s4:(g.st==4)=true:=by simp;omega
 by_cases hpe:zBj cc=g.peer
 ·rw[if_pos ⟨h4,hpe⟩]at hqe;subst hqe;rw[decide_eq_true hpe]at hie;have ht:=fun(F:SF) (nx:Nat) (hF:F m=_)=>zCl (F:=F) (L:=L+1) (nx:=nx) m (by omega) g now 11 hF
  obtain ⟨o,hoo⟩:∃o,o=zAV (zAh g 11):=⟨_,rfl⟩;simp only[];rw[←hoo];simp only[←hoo]at ht;simp only[Gx.mrow,Gx.row,Ini.row,zJ,zF]at ht ⊢;simp only[Tryz.f103,kq,m1,d3,s4,hie,go_sem];repeat refine sd2 ?_
  refine ⟨zEG m2,?_⟩;refine CallVC.same (ht _ _ (by simp[kq,m1])) ?_;simp only[m1,go_sem];repeat refine sd2 ?_
  exact po0 (.tup []) ⟨hm,by simp[Tx.look,BW,m1],trivial⟩ (by simp[UpdAll,keys,m2])
 rw[if_neg (by simp[hpe])]at hqe;subst hqe;rw[decide_eq_false hpe]at hie;have kz:zAV []= .nilS:=rfl;simp only[Tryz.f103,kq,m1,d3,s4,kz,hie,Ini.row,go_sem];repeat refine sd2 ?_
 refine ⟨zEG m2,?_⟩;exact po0 (.tup []) ⟨hm,by simp[Tx.look,BW,m1,kq],trivial⟩ (by simp[UpdAll,keys,m2])
theorem zAd:intKeys []=True:=by unfold intKeys;simp
theorem zAR(n:Int)(l:List PV):intKeys (.int .i64 n::l)=intKeys l:=by unfold intKeys;simp
theorem zLv{F:SF}{L nx:Nat}(m:Nm)(hm:m.l≤L)(g:Gx)(now:Int)(p:Pkx)(hp:1≤p.cs.length)(hb:∀c∈p.cs,c.bd.length≤1000000)(hg:g.hd=true)(hn:0≤now∧now≤1099511627776)(ho:g.own.ok=true∧g.own.ck=[])(hF:F m=some (.rows 123 22 true true [g.mrow now .nilS])):
  Con Tryz.prog 57 [.ptr m 0 0,.agg p.row] F L nx nx (.bool true) [(m,.rows 123 22 true true [(zDB g now p).1.mrow now (zAV (zDB g now p).2)])] [m]:=by
 have m1:∀k,(m=(⟨L+1,k⟩:Nm))=False:=zAI hm;have m2:∀k,((⟨L+1,k⟩:Nm)=m)=False:=zAF hm;obtain ⟨fr,tt,tg,cs⟩:=p;obtain ⟨c,cs,rfl⟩:∃c l,cs=c::l:=by
  cases cs with
  |nil=>simp at hp
  |cons c l=>exact ⟨c,l,rfl⟩
 have hl:=hb c (by simp);unfold zDB;simp only[Pkx.hdC,List.headD_cons];by_cases hto:fr=g.tt∧tt=g.fr;rotate_left
 ·rw[if_neg hto];have kz:zAV []= .nilS:=rfl;simp only[Gx.mrow,Gx.row,Ckx.row,Pkx.row,zJ,zF,zL,kz]at hF ⊢;by_cases h1:fr=g.tt
  ·have f1:(fr !=g.tt)=false:=by simp;omega
   have f2:(tt !=g.fr)=true:=by
    simp only[bne_iff_ne,ne_eq];intro h2;exact hto ⟨h1,h2⟩
   refine bdy Tryz.f57 (hrd:=(by simp;omega)) ?_;intro F3 hF1 hF2;have kq:=(hF1 m (by simp)).trans hF;simp only[Tryz.f57,kq,m1,f1,f2,go_sem];repeat refine sd2 ?_
   refine ⟨zEG m2,?_⟩;exact po0 (.bool true) ⟨hm,by simp[Tx.look,BW,m1,kq],trivial⟩ (by simp[UpdAll,keys,m2])
  ·have f1:(fr !=g.tt)=true:=by simp;omega
   refine bdy Tryz.f57 (hrd:=(by simp;omega)) ?_;intro F3 hF1 hF2;have kq:=(hF1 m (by simp)).trans hF;simp only[Tryz.f57,kq,m1,f1,go_sem];repeat refine sd2 ?_
   refine ⟨zEG m2,?_⟩;exact po0 (.bool true) ⟨hm,by simp[Tx.look,BW,m1,kq],trivial⟩ (by simp[UpdAll,keys,m2])
 rw[if_pos hto];obtain ⟨h1,h2⟩:=hto;have f1:(fr !=g.tt)=false:=by simp;omega
 have f2:(tt !=g.fr)=false:=by simp;omega
 obtain ⟨q,hq⟩:∃q,q=zAQ g now tg c:=⟨_,rfl⟩;rw[←hq];have hF0:=hF;simp only[Gx.mrow,Gx.row,Ckx.row,Pkx.row,zJ,zF,zL]at hF ⊢;refine zUU (zAg (L+1)) rfl rfl (fn:=Tryz.f57) (c:=Tryz.f57.body.getD .skip) (by kernel_rfl) (by rfl) (by kernel_rfl) rfl (by simp;omega) ?_;intro F3 hF1 hF2;have kq:=(hF1 m (by simp)).trans hF;have kq0:=(hF1 m (by simp)).trans hF0;refine vcu ⟨[some (.ptr m 0 0),none,none,some (.ptr ⟨L+1,0⟩ 0 0)]++oz 58,[(⟨L+1,0⟩,.rows 38 4 true true [[.int .i64 fr,.int .i64 tt,.int .i64 tg,.fs 3 ([.int .i64 c.kd,.int .i64 c.fl,.str c.bd]::cs.map Ckx.row)]])],10000⟩ ?_ ?_
 ·simp only[Tryz.f57,go_sem];repeat refine sd2 ?_
  refine ⟨(),(so0 hF2)⟩
 refine vcu ⟨[some (.ptr m 0 0),none,none,some (.ptr ⟨L+1,0⟩ 0 0)]++oz 58,[(⟨L+1,0⟩,.rows 38 4 true true [[.int .i64 fr,.int .i64 tt,.int .i64 tg,.fs 3 ([.int .i64 c.kd,.int .i64 c.fl,.str c.bd]::cs.map Ckx.row)]])],20000⟩ ?_ ?_
 ·simp only[Tryz.f57,kq,m1,f1,f2,go_sem];repeat refine sd2 ?_
  refine ⟨zEG m2,(),(so0 hF2)⟩
 refine vcu ⟨[some (.ptr m 0 0),none,none,some (.ptr ⟨L+1,0⟩ 0 0),none,some (.ptr ⟨L+1,20128⟩ 0 0)]++oz 56,[(⟨L+1,0⟩,.rows 38 4 true true [[.int .i64 fr,.int .i64 tt,.int .i64 tg,.fs 3 ([.int .i64 c.kd,.int .i64 c.fl,.str c.bd]::cs.map Ckx.row)]]),(⟨L+1,20128⟩,.rows 73 3 true true [[.int .i64 c.kd,.int .i64 c.fl,.str c.bd]])],30000⟩ ?_ ?_
 ·simp only[Tryz.f57,go_sem];repeat refine sd2 ?_
  refine ⟨(),(so0 hF2)⟩
 refine vcu ⟨[some (.ptr m 0 0),none,none,some (.ptr ⟨L+1,0⟩ 0 0),none,some (.ptr ⟨L+1,20128⟩ 0 0),some (.mp ⟨L+1,30000⟩)]++oz 55,[(⟨L+1,0⟩,.rows 38 4 true true [[.int .i64 fr,.int .i64 tt,.int .i64 tg,.fs 3 ([.int .i64 c.kd,.int .i64 c.fl,.str c.bd]::cs.map Ckx.row)]]),(⟨L+1,20128⟩,.rows 73 3 true true [[.int .i64 c.kd,.int .i64 c.fl,.str c.bd]]),(⟨L+1,30000⟩,.map true true [.int .i64 1,.int .i64 2,.int .i64 10,.int .i64 11,.int .i64 7,.int .i64 8,.int .i64 14,.int .i64 6] [.fn (.func 101) [] [],.fn (.func 102) [] [],.fn (.func 103) [] [],.fn (.func 104) [] [],.fn (.func 105) [] [],.fn (.func 106) [] [],.fn (.func 107) [] [],.fn (.func 108) [] []])],40000⟩ ?_ ?_
 ·simp only[Tryz.f57,zJm,zHS,zDc,Int.reduceEq,vM,zAd,zAR,go_sem];repeat refine sd2 ?_
  refine ⟨(),(so0 hF2)⟩
 refine VT.of (zAg (L+1)) ?_;have no:q=(g,[])→zAV q.2= .nilS∧q.1=g:=fun h=>by rw[h];exact ⟨rfl,rfl⟩
 by_cases hk:c.kd=1
 ·have b1:((1:Int)==1)=true:=rfl;have hc:=fun(F:SF) (nx:Nat) (hF:F m=_)=>zNZ (F:=F) (L:=L+1) (nx:=nx) m (by omega) g now ⟨fr,tt,tg,c::cs⟩ c (hk) hl hg hn hF
  have hq2:q=zFF g now tg c:=by rw[hq];unfold zAQ;simp[hk]
  simp only[←hq2]at hc;simp only[Gx.mrow,Gx.row,Ckx.row,Pkx.row,zJ,zF,zL,hk]at hc;simp only[Tryz.f57,hk,b1,zDc,Int.reduceEq,wX,zAd,zAR,go_sem];repeat refine sd2 ?_
  refine ⟨zAA (fun x=>if x=m then 1 else x.i+2) (by simp only[zA0,List.map,m2,if_false];kernel_rfl),?_⟩;refine CallVC.same (hc _ _ (by simp[kq,m1])) ?_;simp only[m1,go_sem];repeat refine sd2 ?_
  exact po0 (.bool true) ⟨hm,by simp[Tx.look,BW,m1],trivial⟩ (by simp[UpdAll,keys,m2])
 have n1:(1=c.kd)=False:=by apply eq_false;omega
 by_cases hk:c.kd=2
 ·have b1:((2:Int)==1)=false:=rfl;by_cases htag:tg=g.own.tag
  ·have tg0:(tg==g.own.tag)=true:=by simp;omega
   have hc:=fun(F:SF) (nx:Nat) (hF:F m=_)=>zNa (F:=F) (L:=L+1) (nx:=nx) m (by omega) g now ⟨fr,tt,tg,c::cs⟩ c (hk) hl hn ho hF
   have hq2:q=zDh g now c:=by rw[hq];unfold zAQ;simp[hk,htag]
   simp only[←hq2]at hc;simp only[Gx.mrow,Gx.row,Ckx.row,Pkx.row,zJ,zF,zL,hk]at hc;simp only[Tryz.f57,kq,m1,hk,b1,tg0,zDc,Int.reduceEq,wX,zAd,zAR,go_sem];repeat refine sd2 ?_
   refine ⟨zEG m2,?_⟩;refine CallVC.same (hc _ _ (by simp[kq,m1])) ?_;simp only[m1,go_sem];repeat refine sd2 ?_
   exact po0 (.bool true) ⟨hm,by simp[Tx.look,BW,m1],trivial⟩ (by simp[UpdAll,keys,m2])
  ·have tg0:(tg==g.own.tag)=false:=by simp;omega
   obtain ⟨z1,z2⟩:=no (by rw[hq];unfold zAQ;simp[hk,htag]);simp only[Tryz.f57,kq,m1,hk,b1,tg0,z1,z2,zDc,Int.reduceEq,wX,zAd,zAR,go_sem];repeat refine sd2 ?_
   refine ⟨zEG m2,?_⟩;exact po0 (.bool true) ⟨hm,by simp[Tx.look,BW,m1,kq],trivial⟩ (by simp[UpdAll,keys,m2])
 have n2:(2=c.kd)=False:=by apply eq_false;omega
 by_cases hk:c.kd=10
 ·have b1:((10:Int)==1)=false:=rfl;by_cases htag:tg=g.own.tag
  ·have tg0:(tg==g.own.tag)=true:=by simp;omega
   have hc:=fun(F:SF) (nx:Nat) (hF:F m=_)=>zO4 (F:=F) (L:=L+1) (nx:=nx) m (by omega) g now ⟨fr,tt,tg,c::cs⟩ c hl hg hn hF
   have hq2:q=zC9 g now c.bd:=by rw[hq];unfold zAQ;simp[hk,htag]
   simp only[←hq2]at hc;simp only[Gx.mrow,Gx.row,Ckx.row,Pkx.row,zJ,zF,zL,hk]at hc;simp only[Tryz.f57,kq,m1,hk,b1,tg0,zDc,Int.reduceEq,wX,zAd,zAR,go_sem];repeat refine sd2 ?_
   refine ⟨zEG m2,?_⟩;refine CallVC.same (hc _ _ (by simp[kq,m1])) ?_;simp only[m1,go_sem];repeat refine sd2 ?_
   exact po0 (.bool true) ⟨hm,by simp[Tx.look,BW,m1],trivial⟩ (by simp[UpdAll,keys,m2])
  ·have tg0:(tg==g.own.tag)=false:=by simp;omega
   obtain ⟨z1,z2⟩:=no (by rw[hq];unfold zAQ;simp[hk,htag]);simp only[Tryz.f57,kq,m1,hk,b1,tg0,z1,z2,zDc,Int.reduceEq,wX,zAd,zAR,go_sem];repeat refine sd2 ?_
   refine ⟨zEG m2,?_⟩;exact po0 (.bool true) ⟨hm,by simp[Tx.look,BW,m1,kq],trivial⟩ (by simp[UpdAll,keys,m2])
 have n10:(10=c.kd)=False:=by apply eq_false;omega
 by_cases hk:c.kd=11
 ·have b1:((11:Int)==1)=false:=rfl;by_cases htag:tg=g.own.tag
  ·have tg0:(tg==g.own.tag)=true:=by simp;omega
   have hc:=fun(F:SF) (nx:Nat) (hF:F m=_)=>zNW (F:=F) (L:=L+1) (nx:=nx) m (by omega) g now ⟨fr,tt,tg,c::cs⟩ c hF
   have hq2:q=if g.st=3 then (zAT g 4,([]:List Pkx)) else (g,[]):=by rw[hq];unfold zAQ;simp[hk,htag]
   simp only[←hq2]at hc;simp only[Gx.mrow,Gx.row,Ckx.row,Pkx.row,zJ,zF,zL,hk]at hc;simp only[Tryz.f57,kq,m1,hk,b1,tg0,zDc,Int.reduceEq,wX,zAd,zAR,go_sem];repeat refine sd2 ?_
   refine ⟨zEG m2,?_⟩;refine CallVC.same (hc _ _ (by simp[kq,m1])) ?_;simp only[m1,go_sem];repeat refine sd2 ?_
   exact po0 (.bool true) ⟨hm,by simp[Tx.look,BW,m1],trivial⟩ (by simp[UpdAll,keys,m2])
  ·have tg0:(tg==g.own.tag)=false:=by simp;omega
   obtain ⟨z1,z2⟩:=no (by rw[hq];unfold zAQ;simp[hk,htag]);simp only[Tryz.f57,kq,m1,hk,b1,tg0,z1,z2,zDc,Int.reduceEq,wX,zAd,zAR,go_sem];repeat refine sd2 ?_
   refine ⟨zEG m2,?_⟩;exact po0 (.bool true) ⟨hm,by simp[Tx.look,BW,m1,kq],trivial⟩ (by simp[UpdAll,keys,m2])
 have n11:(11=c.kd)=False:=by apply eq_false;omega
 by_cases hk:c.kd=7
 ·have b1:((7:Int)==1)=false:=rfl;by_cases htag:tg=g.own.tag
  ·have tg0:(tg==g.own.tag)=true:=by simp;omega
   have hc:=fun(F:SF) (nx:Nat) (hF:F m=_)=>zO3 (F:=F) (L:=L+1) (nx:=nx) m (by omega) g now ⟨fr,tt,tg,c::cs⟩ c hn ho hF
   have hq2:q=zGI g now:=by rw[hq];unfold zAQ;simp[hk,htag]
   simp only[←hq2]at hc;simp only[Gx.mrow,Gx.row,Ckx.row,Pkx.row,zJ,zF,zL,hk]at hc;simp only[Tryz.f57,kq,m1,hk,b1,tg0,zDc,Int.reduceEq,wX,zAd,zAR,go_sem];repeat refine sd2 ?_
   refine ⟨zEG m2,?_⟩;refine CallVC.same (hc _ _ (by simp[kq,m1])) ?_;simp only[m1,go_sem];repeat refine sd2 ?_
   exact po0 (.bool true) ⟨hm,by simp[Tx.look,BW,m1],trivial⟩ (by simp[UpdAll,keys,m2])
  ·have tg0:(tg==g.own.tag)=false:=by simp;omega
   obtain ⟨z1,z2⟩:=no (by rw[hq];unfold zAQ;simp[hk,htag]);simp only[Tryz.f57,kq,m1,hk,b1,tg0,z1,z2,zDc,Int.reduceEq,wX,zAd,zAR,go_sem];repeat refine sd2 ?_
   refine ⟨zEG m2,?_⟩;exact po0 (.bool true) ⟨hm,by simp[Tx.look,BW,m1,kq],trivial⟩ (by simp[UpdAll,keys,m2])
 have n7:(7=c.kd)=False:=by apply eq_false;omega
 by_cases hk:c.kd=8
 ·have b1:((8:Int)==1)=false:=rfl;by_cases htag:tg=g.own.tag
  ·have tg0:(tg==g.own.tag)=true:=by simp;omega
   have hc:=fun(F:SF) (nx:Nat) (hF:F m=_)=>zNY (F:=F) (L:=L+1) (nx:=nx) m (by omega) g now ⟨fr,tt,tg,c::cs⟩ c hF
   have hq2:q=zDA g:=by rw[hq];unfold zAQ;simp[hk,htag]
   simp only[←hq2]at hc;simp only[Gx.mrow,Gx.row,Ckx.row,Pkx.row,zJ,zF,zL,hk]at hc;simp only[Tryz.f57,kq,m1,hk,b1,tg0,zDc,Int.reduceEq,wX,zAd,zAR,go_sem];repeat refine sd2 ?_
   refine ⟨zEG m2,?_⟩;refine CallVC.same (hc _ _ (by simp[kq,m1])) ?_;simp only[m1,go_sem];repeat refine sd2 ?_
   exact po0 (.bool true) ⟨hm,by simp[Tx.look,BW,m1],trivial⟩ (by simp[UpdAll,keys,m2])
  ·have tg0:(tg==g.own.tag)=false:=by simp;omega
   obtain ⟨z1,z2⟩:=no (by rw[hq];unfold zAQ;simp[hk,htag]);simp only[Tryz.f57,kq,m1,hk,b1,tg0,z1,z2,zDc,Int.reduceEq,wX,zAd,zAR,go_sem];repeat refine sd2 ?_
   refine ⟨zEG m2,?_⟩;exact po0 (.bool true) ⟨hm,by simp[Tx.look,BW,m1,kq],trivial⟩ (by simp[UpdAll,keys,m2])
 have n8:(8=c.kd)=False:=by apply eq_false;omega
 by_cases hk:c.kd=14
 ·have b1:((14:Int)==1)=false:=rfl;by_cases htag:tg=g.own.tag
  ·have tg0:(tg==g.own.tag)=true:=by simp;omega
   have hc:=fun(F:SF) (nx:Nat) (hF:F m=_)=>zNX (F:=F) (L:=L+1) (nx:=nx) m (by omega) g now ⟨fr,tt,tg,c::cs⟩ c hF
   have hq2:q=if g.st=6 then (zAT g 7,([]:List Pkx)) else (g,[]):=by rw[hq];unfold zAQ;simp[hk,htag]
   simp only[←hq2]at hc;simp only[Gx.mrow,Gx.row,Ckx.row,Pkx.row,zJ,zF,zL,hk]at hc;simp only[Tryz.f57,kq,m1,hk,b1,tg0,zDc,Int.reduceEq,wX,zAd,zAR,go_sem];repeat refine sd2 ?_
   refine ⟨zEG m2,?_⟩;refine CallVC.same (hc _ _ (by simp[kq,m1])) ?_;simp only[m1,go_sem];repeat refine sd2 ?_
   exact po0 (.bool true) ⟨hm,by simp[Tx.look,BW,m1],trivial⟩ (by simp[UpdAll,keys,m2])
  ·have tg0:(tg==g.own.tag)=false:=by simp;omega
   obtain ⟨z1,z2⟩:=no (by rw[hq];unfold zAQ;simp[hk,htag]);simp only[Tryz.f57,kq,m1,hk,b1,tg0,z1,z2,zDc,Int.reduceEq,wX,zAd,zAR,go_sem];repeat refine sd2 ?_
   refine ⟨zEG m2,?_⟩;exact po0 (.bool true) ⟨hm,by simp[Tx.look,BW,m1,kq],trivial⟩ (by simp[UpdAll,keys,m2])
 have n14:(14=c.kd)=False:=by apply eq_false;omega
 by_cases hk:c.kd=6
 ·have b1:((6:Int)==1)=false:=rfl;by_cases htag:tg=g.own.tag
  ·have tg0:(tg==g.own.tag)=true:=by simp;omega
   have hc:=fun(F:SF) (nx:Nat) (hF:F m=_)=>zKJ (F:=F) (L:=L+1) (nx:=nx) m (by omega) g now ⟨fr,tt,tg,c::cs⟩ c hF
   have hq2:q=if g.st=1∨g.st=7 then (g,([]:List Pkx)) else (zAT g 7,[]):=by rw[hq];unfold zAQ;simp[hk,htag]
   simp only[←hq2]at hc;simp only[Gx.mrow,Gx.row,Ckx.row,Pkx.row,zJ,zF,zL,hk]at hc;simp only[Tryz.f57,kq,m1,hk,b1,tg0,zDc,Int.reduceEq,wX,zAd,zAR,go_sem];repeat refine sd2 ?_
   refine ⟨zEG m2,?_⟩;refine CallVC.same (hc _ _ (by simp[kq,m1])) ?_;simp only[m1,go_sem];repeat refine sd2 ?_
   exact po0 (.bool true) ⟨hm,by simp[Tx.look,BW,m1],trivial⟩ (by simp[UpdAll,keys,m2])
  ·have tg0:(tg==g.own.tag)=false:=by simp;omega
   obtain ⟨z1,z2⟩:=no (by rw[hq];unfold zAQ;simp[hk,htag]);simp only[Tryz.f57,kq,m1,hk,b1,tg0,z1,z2,zDc,Int.reduceEq,wX,zAd,zAR,go_sem];repeat refine sd2 ?_
   refine ⟨zEG m2,?_⟩;exact po0 (.bool true) ⟨hm,by simp[Tx.look,BW,m1,kq],trivial⟩ (by simp[UpdAll,keys,m2])
 have n6:(6=c.kd)=False:=by apply eq_false;omega
 obtain ⟨z1,z2⟩:=no (by rw[hq];unfold zAQ;repeat (rw[if_neg (by omega)]);split<;>rfl);simp only[Tryz.f57,n1,n2,n10,n11,n7,n8,n14,n6,z1,z2,zDc,vM,zAd,zAR,go_sem];repeat refine sd2 ?_
 refine ⟨zAA (fun x=>if x=m then 1 else x.i+2) (by simp only[zA0,List.map];kernel_rfl),?_⟩;exact po0 (.bool true) ⟨hm,by simp[Tx.look,BW,m1,kq],trivial⟩ (by simp[UpdAll,keys,m2])
theorem zUw{g:Gx}(h:g.ok=true):g.due<0∨(0≤g.due∧g.due≤1099511634176∧1≤g.tr∧g.tr≤8):=by
 unfold Gx.ok at h;simp only[zC]at h;have hm:=h.1.2;have hr:g.rest=true→g.due<0:=by intro h;unfold Gx.rest at h;simp at h;omega
 have ht:g.tries=true→(0≤g.due∧g.due≤1099511634176∧1≤g.tr∧g.tr≤8):=by intro h;unfold Gx.tries at h;simp at h;omega
 unfold Gx.mid at hm;split at hm;·simp only[zC]at hm;exact .inl (hr hm.2)
 split at hm;·simp only[zC]at hm;exact .inr (ht hm.2)
 split at hm;·simp only[zC]at hm;exact .inr (ht hm.2)
 split at hm;·simp only[zC]at hm;exact .inl (hr hm.2)
 split at hm;·simp only[zC]at hm;exact .inl (hr hm.2)
 ·cases hm
def zQl(f:FuncId)(m:Nm)(g:Gx)(now:Int)(p:Pkx)(r:Option (Gx×List Pkx))(F:SF)(L nx:Nat):Prop:=
 match r with
 |none=>Con Tryz.prog f [.ptr m 0 0,.agg p.row] F L nx nx (.bool false) [] [m]
 |some (h,o)=>Con Tryz.prog f [.ptr m 0 0,.agg p.row] F L nx nx (.bool true) [(m,.rows 123 22 true true [h.mrow now (zAV o)])] [m]
def evF(kind:Int):FuncId:=if kind=1 then 53 else if kind=2 then 54 else if kind=3 then 55 else if kind=4 then 56 else 57
theorem zR9{F:SF}{L nx:Nat}(m:Nm)(hm:m.l≤L)(g:Gx)(now:Int)(p:Pkx)(kind:Int)(hk:1≤kind∧kind≤5)(hg:g.hd=true)(hd:g.due<0∨(0≤g.due∧g.due≤1099511634176∧1≤g.tr∧g.tr≤8))(hn:0≤now∧now≤1099511627776)
  (hp:kind=5→1≤p.cs.length)(hb:∀c∈p.cs,c.bd.length≤1000000)(hF:F m=some (.rows 123 22 true true [g.mrow now .nilS])):zQl (evF kind) m g now p (gEv g now kind p) F L nx:=by
 have ho:g.own.ok=true∧g.own.ck=[]:=by
  have:=hg;rw[zUR]at this;exact zBz this.2.2.2.2.2.1
 unfold gEv evF;by_cases k1:kind=1
 ·rw[if_pos k1,if_pos k1];unfold zM5;by_cases h1:g.st=1;·rw[if_pos h1];exact zO1 m hm g now p h1 hn ho hF
  ·rw[if_neg h1];exact zNP m hm g now p h1 hF
 rw[if_neg k1,if_neg k1];by_cases k2:kind=2
 ·rw[if_pos k2,if_pos k2];unfold zJF;by_cases h1:g.st=4;·rw[if_pos h1];exact zNQ m hm g now p h1 hn ho hF
  ·rw[if_neg h1];exact zLs m hm g now p h1 hF
 rw[if_neg k2,if_neg k2];by_cases k3:kind=3
 ·rw[if_pos k3,if_pos k3];unfold zHF;by_cases h1:g.st=1∨g.st=7;·rw[if_pos h1];exact zLt m hm g now p h1 hF
  ·rw[if_neg h1];by_cases h2:g.st=2;·rw[if_pos h2];exact zLu m hm g now p h2 hF
   ·rw[if_neg h2];exact zNR m hm g now p (by omega) hF
 rw[if_neg k3,if_neg k3];by_cases k4:kind=4
 ·rw[if_pos k4,if_pos k4];unfold zBy;by_cases h1:g.due<0∨now<g.due;·rw[if_pos h1];exact zNS m hm g now p h1 hF
  ·rw[if_neg h1];by_cases h2:g.tr=8;·rw[if_pos h2];exact zNT m hm g now p (by omega) h2 hF
   ·rw[if_neg h2];exact zO2 m hm g now p (by omega) (by omega) hn.2 ho hF
 rw[if_neg k4,if_neg k4];exact zLv m hm g now p (hp (by omega)) hb hg hn ho hF
end Go.Proofs.YtifhjhbfhdcahaaGreat
end
