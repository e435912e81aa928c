/- Lemmas for the walk: GK58, GK151, GK152. -/
import Derived.Test.YtifhjhbfhdcahaaGreatP23
import Derived.Test.YtifhjhbfhdcahaaGreatP21
import Derived.Test.YtifhjhbfhdcahaaGreatP19
set_option linter.all false
section
namespace Go.Proofs.YtifhjhbfhdcahaaGreat
open Go.Tx
set_option maxRecDepth 100000
set_option maxHeartbeats 16000000
theorem zSH{F:SF}{L nx:Nat}(n:Nat)(hn:n≤1000000000):Con Tryz.prog 87 [.int .i64 n,.int .i64 4] F L nx nx (.int .i64 (((n+3)/4*4:Nat):Int)) [] []:=by
 refine bdy Tryz.f87 ?_;intro F3 hF1 hF2;simp only[Tryz.f87,go_sem];refine loopK.intro _ _ (I:=fun i:Nat=>⟨[some (.int .i64 ((n+i:Nat):Int)),some (.int .i64 4)]++oz 10,[],10000*(i+1)⟩) (pre:=fun i=>n+i≤(n+3)/4*4) (μ:=fun i=>(n+3)/4*4-(n+i)) 0 (by omega) ?_ ?_
 ·refine Sub.of (hfz hF2) (by simp only[go_sem,zAf,and_self]) ?_ (by simp[zAs]) (by simp);simp[zAi]
 intro i hi;have tm:((n+i:Nat):Int).tmod 4=(((n+i)%4:Nat):Int):=by
  rw[wY (by omega)];rfl
 by_cases h:(n+i)%4=0
 ·have g1:((((n+i)%4:Nat):Int) !=0)=false:=by rw[h];rfl
  have e:(n+3)/4*4=n+i:=by omega
  simp only[tm,g1,zA,go_sem];repeat refine sd2 ?_
  rw[e];exact PostF.rs (v0:=.int .i64 ((n+i:Nat):Int)) (.inr rfl)
 ·have g1:((((n+i)%4:Nat):Int) !=0)=true:=by simp;omega
  have e:((n+i:Nat):Int)+1=((n+(i+1):Nat):Int):=by omega
  simp only[tm,g1,zA,go_sem];repeat refine sd2 ?_
  refine ⟨i+1,by omega,by omega,?_⟩;refine Sub.of (hfz hF2) (by simp only[e,go_sem,zAf,and_self]) ?_ (by simp[zAs]) (by simp only[];omega);simp[zAi]
theorem zSI{n:Int}(h:zA2 8 n=true):0≤n∧n≤255:=by
 unfold zA2 at h;simp at h;omega
theorem zPk{n:Int}(h:0≤n)(h':n≤255):zA2 8 n=true:=by
 unfold zA2;simp;omega
theorem zNu{F:SF}{L nx:Nat}(p:Pkx)(hlen:p.cs.length≤maxLen)(hb:∀c∈p.cs,c.bd.length≤maxLen):Con Tryz.prog 44 [.agg p.row] F L nx nx (.bool p.ok) [] []:=by
 unfold maxLen at hlen hb;refine bdy Tryz.f44 ?_;intro F3 hF1 hF2;simp only[Tryz.f44,Pkx.row,go_sem];refine CallVC.same (zFE p.fr) ?_;unfold Pkx.ok Pkx.hd;cases h1:zA2 16 p.fr with
 |false=>
  simp only[zN,zX,go_sem];exact .bool (.inr rfl) rfl rfl (by simp[UpdAll])
 |true=>
 simp only[zT,zR,go_sem];refine CallVC.same (zFE p.tt) ?_;cases h2:zA2 16 p.tt with
 |false=>
  simp only[zN,zX,go_sem];exact .bool (.inr rfl) rfl rfl (by simp[UpdAll])
 |true=>
 simp only[zT,zR,go_sem];refine CallVC.same (zGQ p.tg) ?_;cases h3:zA2 32 p.tg with
 |false=>
  simp only[zN,zX,go_sem];exact .bool (.inr rfl) rfl rfl (by simp[UpdAll])
 |true=>
 by_cases h4:p.cs.length<1
 ·have g4:decide ((p.cs.length:Int)<1)=true:=dT (by omega);have g4':decide (1≤p.cs.length)=false:=dF (by omega);simp only[g4,g4',zN,zT,zX,zR,zG,go_sem];exact .bool (.inr rfl) rfl rfl (by simp[UpdAll])
 have g4:decide ((p.cs.length:Int)<1)=false:=dF (by omega);have g4':decide (1≤p.cs.length)=true:=dT (by omega);by_cases h5:40<p.cs.length
 ·have g5:decide ((40:Int)<(p.cs.length:Int))=true:=dT (by omega);have g5':decide (p.cs.length≤40)=false:=dF (by omega);simp only[g4,g4',g5,g5',zN,zT,zX,zR,zG,go_sem];exact .bool (.inr rfl) rfl rfl (by simp[UpdAll])
 have g5:decide ((40:Int)<(p.cs.length:Int))=false:=dF (by omega);have g5':decide (p.cs.length≤40)=true:=dT (by omega);simp only[g4,g4',g5,g5',zN,zT,zX,zR,zG,go_sem];refine loopK.intro _ _ (I:=fun i:Nat=>⟨[none,some (.ptr ⟨L+1,0⟩ 0 0),none,some (.int .i64 ((12+szs (p.cs.take i):Nat):Int)),some (.int .i64 i)]++oz 74,[(⟨L+1,0⟩,.rows 38 4 true true [(pR p)])],10000*(i+1)⟩)
  (pre:=fun i=>i≤p.cs.length∧szs (p.cs.take i)≤1204*i∧(p.cs.take i).all Ckx.ok=true) (μ:=fun i=>p.cs.length-i) 0 ⟨by omega,by simp[szs],by simp⟩ ?_ ?_
 ·refine Sub.of (hfz hF2) (by simp only[uG,szs,wM,List.sum_nil,go_sem,zAf,and_self,zW];try trivial) ?_ (by simp[zAs,keys]) (by simp);simp[zAi,Tx.look]
 rintro i ⟨hi,hz,hal⟩
 by_cases hlt:i<p.cs.length
 ·have q1:decide ((i:Int)<(p.cs.length:Int))=true:=dT (by omega);have r0:=zRk hlt;obtain ⟨c,hc⟩:∃c,c=p.cs[i]:=⟨_,rfl⟩;have hcl:=hb c (by rw[hc];exact uH _);have htk:p.cs.take (i+1)=p.cs.take i++[c]:=by rw[hc];simp
  rw[←hc]at r0;have mem:c∈p.cs:=by rw[hc];exact uH _
  cases hok:c.ok with
  |true=>
   have hok':=hok;unfold Ckx.ok at hok;simp only[zC,decide_eq_true_eq]at hok;obtain ⟨⟨k1,k2⟩,k3⟩:=hok;have k1':=zSI k1;have k2':=zSI k2;have d1:decide (c.kd<0)=false:=dF (by omega);have d2:decide (255<c.kd)=false:=dF (by omega);have d3:decide (c.fl<0)=false:=dF (by omega);have d4:decide (255<c.fl)=false:=dF (by omega);have d5:decide ((1200:Int)<(c.bd.length:Int))=false:=dF (by omega);have z1:szs (p.cs.take (i+1))=szs (p.cs.take i)+(4+(c.bd.length+3)/4*4):=by rw[htk];simp[szs,Ckx.sz]
   have z2:(c.bd.length+3)/4*4≤1200:=by omega
   simp only[q1,r0,d1,d2,d3,d4,d5,Ckx.row,zG,kS2,zA,go_sem];repeat refine sd2 ?_
   refine CallVC.same (zSH c.bd.length (by omega)) ?_;simp only[zA,go_sem];repeat refine sd2 ?_
   refine ⟨i+1,⟨by omega,by omega,by rw[htk,List.all_append,hal];simp[hok']⟩,by omega,?_⟩;have e:((12+szs (p.cs.take i):Nat):Int)+4+(((c.bd.length+3)/4*4:Nat):Int)=((12+szs (p.cs.take (i+1)):Nat):Int):=by omega
   refine Sub.of (hfz hF2) (by simp only[e,go_sem,zAf,and_self,zY]) ?_ (by simp[zAs,keys]) (by simp only[];omega);simp[zAi,Tx.look]
  | false=>
   have hall:p.cs.all Ckx.ok=false:=by
    rw[List.all_eq_false];exact ⟨c,mem,by simp[hok]⟩
   have hcase:c.kd<0∨(¬c.kd<0∧255<c.kd)∨(¬c.kd<0∧¬255<c.kd∧c.fl<0)∨(¬c.kd<0∧¬255<c.kd∧¬c.fl<0∧255<c.fl)∨(¬c.kd<0∧¬255<c.kd∧¬c.fl<0∧¬255<c.fl∧1200<c.bd.length):=by
    unfold Ckx.ok at hok;by_cases a1:c.kd<0;·exact .inl a1
    by_cases a2:255<c.kd;·exact .inr (.inl ⟨a1,a2⟩)
    by_cases a3:c.fl<0;·exact .inr (.inr (.inl ⟨a1,a2,a3⟩))
    by_cases a4:255<c.fl;·exact .inr (.inr (.inr (.inl ⟨a1,a2,a3,a4⟩)))
    ·refine .inr (.inr (.inr (.inr ⟨a1,a2,a3,a4,?_⟩)));rw[zPk (by omega) (by omega),zPk (by omega) (by omega)]at hok;simpa using hok
   rw[hall];rcases hcase with a1|⟨a1,a2⟩|⟨a1,a2,a3⟩|⟨a1,a2,a3,a4⟩|⟨a1,a2,a3,a4,a5⟩
   ·have d1:decide (c.kd<0)=true:=dT (by omega);simp only[q1,r0,d1,Ckx.row,zG,vJ,zX,kS2,zA,go_sem];repeat refine sd2 ?_
    exact .bool (.inr rfl) rfl rfl (by simp[UpdAll])
   ·have d1:decide (c.kd<0)=false:=dF (by omega);have d2:decide (255<c.kd)=true:=dT (by omega);simp only[q1,r0,d1,d2,Ckx.row,zG,vJ,zX,kS2,zA,go_sem];repeat refine sd2 ?_
    exact .bool (.inr rfl) rfl rfl (by simp[UpdAll])
   ·have d1:decide (c.kd<0)=false:=dF (by omega);have d2:decide (255<c.kd)=false:=dF (by omega);have d3:decide (c.fl<0)=true:=dT (by omega);simp only[q1,r0,d1,d2,d3,Ckx.row,zG,vJ,zX,kS2,zA,go_sem];repeat refine sd2 ?_
    exact .bool (.inr rfl) rfl rfl (by simp[UpdAll])
   ·have d1:decide (c.kd<0)=false:=dF (by omega);have d2:decide (255<c.kd)=false:=dF (by omega);have d3:decide (c.fl<0)=false:=dF (by omega);have d4:decide (255<c.fl)=true:=dT (by omega);simp only[q1,r0,d1,d2,d3,d4,Ckx.row,zG,vJ,zX,kS2,zA,go_sem];repeat refine sd2 ?_
    exact .bool (.inr rfl) rfl rfl (by simp[UpdAll])
   ·have d1:decide (c.kd<0)=false:=dF (by omega);have d2:decide (255<c.kd)=false:=dF (by omega);have d3:decide (c.fl<0)=false:=dF (by omega);have d4:decide (255<c.fl)=false:=dF (by omega);have d5:decide ((1200:Int)<(c.bd.length:Int))=true:=dT (by omega);simp only[q1,r0,d1,d2,d3,d4,d5,Ckx.row,zG,vJ,zX,kS2,zA,go_sem];repeat refine sd2 ?_
    exact .bool (.inr rfl) rfl rfl (by simp[UpdAll])
 ·have q1:decide ((i:Int)<(p.cs.length:Int))=false:=dF (by omega);have hin:p.cs.take i=p.cs:=zQ (by omega);rw[hin]at hal ⊢;have q2:decide (((12+szs p.cs:Nat):Int)≤1200)=decide (12+szs p.cs≤1200):=by
   by_cases h:12+szs p.cs≤1200;·rw[dT (by omega),dT h]
   ·rw[dF (by omega),dF h]
  simp only[q1,q2,hal,zR,zG,zA,go_sem];exact .bool (.inr rfl) rfl rfl (by simp[UpdAll])
theorem zFr{F:SF}{L nx:Nat}(g:Gx)(body:List UInt8)(u:Nat)(hu:u<256^6)(hb:body.length≤1000)(h1:0≤g.own.tag∧g.own.tag<4294967296)(h2:0≤g.fr∧g.fr≤65535)(h3:0≤g.tt∧g.tt≤65535)(hs:g.sec.length≤64):Con Tryz.prog 35 [.agg (zBB hT kT),.agg g.row,.str body,.int .i64 u] F L nx nx (.str (ckS g body u)) [] []:=by
 have tl:(zBB hT kT).length=2:=rfl;have tn:=zCg hT kT;have e1:g.own.tag=((g.own.tag.toNat:Nat):Int):=by omega
 have e2:g.fr=((g.fr.toNat:Nat):Int):=by omega
 have e3:g.tt=((g.tt.toNat:Nat):Int):=by omega
 have p6:=fun F L nx=>zCp (F:=F) (L:=L) (nx:=nx) 6 u (by omega) (by omega)
 have p4:=fun F L nx=>zCp (F:=F) (L:=L) (nx:=nx) 4 g.own.tag.toNat (by omega) (by omega)
 have p2:=fun F L nx=>zCp (F:=F) (L:=L) (nx:=nx) 2 g.fr.toNat (by omega) (by omega)
 have p1:=fun F L nx=>zCp (F:=F) (L:=L) (nx:=nx) 2 g.tt.toNat (by omega) (by omega)
 rw[←e1]at p4;rw[←e2]at p2;rw[←e3]at p1;have l6:=zAL 6 u;have l4:=zAL 4 g.own.tag.toNat;have l2:=zAL 2 g.fr.toNat;have l1:=zAL 2 g.tt.toNat;have ec:ckS g body u=(zAa 6 u++body++zAa 4 g.own.tag.toNat++zAa 2 g.fr.toNat++zAa 2 g.tt.toNat)++zN5 kT hT g.sec (zAa 6 u++body++zAa 4 g.own.tag.toNat++zAa 2 g.fr.toNat++zAa 2 g.tt.toNat):=by
  unfold ckS;simp only[qL,vO]
 rw[ec];obtain ⟨s6,hs6⟩:∃s,s=zAa 6 u:=⟨_,rfl⟩;obtain ⟨s4,hs4⟩:∃s,s=zAa 4 g.own.tag.toNat:=⟨_,rfl⟩;obtain ⟨s2,hs2⟩:∃s,s=zAa 2 g.fr.toNat:=⟨_,rfl⟩;obtain ⟨s1,hs1⟩:∃s,s=zAa 2 g.tt.toNat:=⟨_,rfl⟩;rw[←hs6]at p6 l6 ⊢;rw[←hs4]at p4 l4 ⊢;rw[←hs2]at p2 l2 ⊢;rw[←hs1]at p1 l1 ⊢;have la:(s6++body).length=6+body.length:=by simp[l6]
 have lb:(s6++body++s4).length=10+body.length:=by simp[l6,l4];omega
 have lc:(s6++body++s4++s2).length=12+body.length:=by simp[l6,l4,l2];omega
 have ld:(s6++body++s4++s2++s1).length=14+body.length:=by simp[l6,l4,l2,l1];omega
 have hM:=fun F L nx=>zQ0 (F:=F) (L:=L) (nx:=nx) hT kT g.sec (s6++body++s4++s2++s1) zJO zR7 zRE hs (by omega)
 have lm:=zIf g.sec (s6++body++s4++s2++s1);simp only[Gx.row];refine bdy Tryz.f35 ?_;intro F3 hF1 hF2;simp only[Tryz.f35,tl,tn,go_sem];repeat refine sd2 ?_
 refine CallVC.same (p6 _ _ _) ?_;simp only[l6,go_sem];repeat refine sd2 ?_
 refine CallVC.same (p4 _ _ _) ?_;simp only[la,l4,zA,go_sem];repeat refine sd2 ?_
 refine CallVC.same (p2 _ _ _) ?_;simp only[lb,l2,zA,go_sem];repeat refine sd2 ?_
 refine CallVC.same (p1 _ _ _) ?_;simp only[lc,l1,zA,go_sem];repeat refine sd2 ?_
 refine ⟨zAA (fun x=>x.i) (by simp only[zA0,List.map];kernel_rfl),?_⟩;repeat refine sd2 ?_
 refine CallVC.same (hM _ _ _) ?_;simp only[ld,lm,zA,go_sem];repeat refine sd2 ?_
 exact ps0
theorem zDC{F:SF}{L nx:Nat}(g:Gx)(tag:Int)(c:Ckx):Con Tryz.prog 117 [.agg g.row,.int .i64 tag,.agg c.row] F L nx nx (zAV (zA9 g tag c)) [] []:=by
 rw[zA9,zGV];simp only[Gx.row,pR,Ckx.row,zL,wM];refine zUU (zAg (L+1)) rfl rfl (fn:=Tryz.f117) (c:=Tryz.f117.body.getD .skip) (by kernel_rfl) (by rfl) (by kernel_rfl) rfl (by simp) ?_;intro F3 hF1 hF2;refine vcu ⟨[none,some (.int .i64 tag),none,some (.ptr ⟨L+1,0⟩ 0 0),none,some (.ptr ⟨L+1,32⟩ 0 0),some (.nilS)]++oz 9,[(⟨L+1,0⟩,.rows 28 20 true true [(gR g [])]),(⟨L+1,32⟩,.rows 73 3 true true [[.int .i64 c.kd,.int .i64 c.fl,.str c.bd]])],10000⟩ ?_ ?_
 ·simp only[Tryz.f117,go_sem];repeat refine sd2 ?_
  exact ⟨(),(so0 hF2)⟩
 refine vcu ⟨[none,none,none,none,none,none,some (.fs 4 [[.int .i64 g.fr,.int .i64 g.tt,.int .i64 tag,.fs 3 [[.int .i64 c.kd,.int .i64 c.fl,.str c.bd]]]])]++oz 9,[],20000⟩ ?_ ?_
 ·simp only[Tryz.f117,go_sem];repeat refine sd2 ?_
  refine ⟨(),(zUb ⟨L+1,10256⟩ (e:=38) (wd:=4) (o:=true) (p:=false) (row:=[.int .i64 g.fr,.int .i64 g.tt,.int .i64 tag,.sl ⟨L+1,10192⟩ 0 1]) [.int .i64 g.fr,.int .i64 g.tt,.int .i64 tag,.fs 3 [[.int .i64 c.kd,.int .i64 c.fl,.str c.bd]]] (by simp[Tx.look]) rfl (by simp[Wk,WkL,Tx.look]) (by simp[zAt,wkN]) (by simp[nfl,Tx.nf])).trans ?_⟩;refine Sub.trans (zUu 6 (.fs 4 [[.int .i64 g.fr,.int .i64 g.tt,.int .i64 tag,.fs 3 [[.int .i64 c.kd,.int .i64 c.fl,.str c.bd]]]]) rfl (by simp[Wk,Tx.look,zAl,setH,unown,zAt,wkN])) ?_;exact (so0 hF2 (h3:=by simp[zAs,keys,zAl,setH,unown,zAt,wkN,Tx.look]))
 refine VT.of (zAg (L+1)) ?_;simp only[Tryz.f117,go_sem];repeat refine sd2 ?_
 exact ps0
theorem zB0{F:SF}{L nx:Nat}(g:Gx)(k:Int):Con Tryz.prog 73 [.agg g.row,.int .i64 k] F L nx nx (zAV (zAh g k)) [] []:=by
 have hp:=fun F L nx=>zDC (F:=F) (L:=L) (nx:=nx) g g.peer.tag ⟨k,0,[]⟩
 unfold zAh;obtain ⟨o,ho⟩:∃o,o=zAV (zA9 g g.peer.tag ⟨k,0,[]⟩):=⟨_,rfl⟩;have on:nf o=true:=by rw[ho];exact zAx _
 rw[←ho]at hp ⊢;simp only[Gx.row,Ckx.row]at hp ⊢;refine bdy Tryz.f73 ?_;intro F3 hF1 hF2;simp only[Tryz.f73,go_sem];repeat refine sd2 ?_
 refine CallVC.same (hp _ _ _) ?_;simp only[go_sem];repeat refine sd2 ?_
 exact PostF.same (p:=True) (.inr rfl) (by simp only[go_sem]) trivial on (by simp[UpdAll])
theorem zDD{F:SF}{L nx:Nat}(g:Gx)(s now:Int)(hn:0≤now∧now≤1099511627776):Con Tryz.prog 71 [.agg g.row,.int .i64 s,.int .i64 now] F L nx nx (.agg (zAG g s now).row) [] []:=by
 simp only[zAG,Gx.row];refine bdy Tryz.f71 ?_;intro F3 hF1 hF2;simp only[Tryz.f71,go_sem];repeat refine sd2 ?_
 exact ps0
theorem zD6{F:SF}{L nx:Nat}(g:Gx)(s:Int):Con Tryz.prog 74 [.agg g.row,.int .i64 s] F L nx nx (.agg (zAT g s).row) [] []:=by
 simp only[zAT,Gx.row];refine bdy Tryz.f74 ?_;intro F3 hF1 hF2;simp only[Tryz.f74,go_sem];repeat refine sd2 ?_
 exact ps0
theorem zFN{F:SF}{L nx:Nat}(g:Gx)(ho:zAZ g.own=true)(hs:g.st=2∨g.st=3∨g.st=5∨g.st=6):Con Tryz.prog 72 [.agg g.row] F L nx nx (zAV (zAj g)) [] []:=by
 obtain ⟨ok,ck⟩:=zBz ho;have hI:=fun F L nx=>zDZ (F:=F) (L:=L) (nx:=nx) g.own ok
 have e1:zCq g.own.ck=1:=by rw[ck];rfl
 rw[e1]at hI;have h2:=fun F L nx=>zDC (F:=F) (L:=L) (nx:=nx) g 0 ⟨1,0,g.own.oct⟩
 have h3:=fun F L nx=>zDC (F:=F) (L:=L) (nx:=nx) g g.peer.tag ⟨10,0,g.ck⟩
 have h5:=fun F L nx=>zB0 (F:=F) (L:=L) (nx:=nx) g 7
 have h6:=fun F L nx=>zB0 (F:=F) (L:=L) (nx:=nx) g 8
 have hA:zAj g=if g.st=2 then zA9 g 0 ⟨1,0,g.own.oct⟩ else if g.st=3 then zA9 g g.peer.tag ⟨10,0,g.ck⟩ else if g.st=5 then zAh g 7 else if g.st=6 then zAh g 8 else []:=rfl
 have on:=zAx (zAj g);obtain ⟨v,hv⟩:∃v,v=zAV (zAj g):=⟨_,rfl⟩;rw[←hv]at on ⊢;simp only[Gx.row,Ini.row,Ckx.row]at hI h2 h3 h5 h6 ⊢;refine bdy Tryz.f72 ?_;intro F3 hF1 hF2;rcases hs with hs|hs|hs|hs
 ·have hv2:zAV (zA9 g 0 ⟨1,0,g.own.oct⟩)=v:=by rw[hv,hA,if_pos hs]
  rw[hv2]at h2;simp only[Tryz.f72,hs,go_sem];repeat refine sd2 ?_
  refine CallVC.same (hI _ _ _) ?_;simp only[go_sem];repeat refine sd2 ?_
  rw[hs]at h2;refine CallVC.same (h2 _ _ _) ?_;simp only[go_sem];repeat refine sd2 ?_
  refine ⟨zAA (fun x=>x.i) (by simp only[zA0,List.map];kernel_rfl),?_⟩;repeat refine sd2 ?_
  exact PostF.same (p:=True) (.inr rfl) (by simp only[go_sem]) trivial on (by simp[UpdAll])
 ·have hv2:zAV (zA9 g g.peer.tag ⟨10,0,g.ck⟩)=v:=by rw[hv,hA,if_neg (by omega),if_pos hs]
  rw[hv2,hs]at h3;simp only[Tryz.f72,hs,Int.reduceBEq,go_sem];repeat refine sd2 ?_
  refine CallVC.same (h3 _ _ _) ?_;simp only[go_sem];repeat refine sd2 ?_
  exact PostF.same (p:=True) (.inr rfl) (by simp only[go_sem]) trivial on (by simp[UpdAll])
 ·have hv2:zAV (zAh g 7)=v:=by rw[hv,hA,if_neg (by omega),if_neg (by omega),if_pos hs]
  rw[hv2,hs]at h5;simp only[Tryz.f72,hs,Int.reduceBEq,go_sem];repeat refine sd2 ?_
  refine CallVC.same (h5 _ _ _) ?_;simp only[go_sem];repeat refine sd2 ?_
  exact PostF.same (p:=True) (.inr rfl) (by simp only[go_sem]) trivial on (by simp[UpdAll])
 ·have hv2:zAV (zAh g 8)=v:=by rw[hv,hA,if_neg (by omega),if_neg (by omega),if_neg (by omega),if_pos hs]
  rw[hv2,hs]at h6;simp only[Tryz.f72,hs,Int.reduceBEq,go_sem];repeat refine sd2 ?_
  refine CallVC.same (h6 _ _ _) ?_;simp only[go_sem];repeat refine sd2 ?_
  exact PostF.same (p:=True) (.inr rfl) (by simp only[go_sem]) trivial on (by simp[UpdAll])
theorem zPH{F:SF}{L nx:Nat}(g:Gx)(now:Int)(ho:zAZ g.own=true)(hn:0≤now∧now≤1099511627776)(hd:g.due= -1∨(0≤g.due∧g.due≤1099511634176∧1≤g.tr∧g.tr≤8))(hst:0≤g.due→g.st=2∨g.st=3∨g.st=5∨g.st=6):Con Tryz.prog 75 [.agg g.row,.int .i64 now] F L nx nx (.tup [.agg (zBy g now).1.row,zAV (zBy g now).2]) [] []:=by
 have hR:=fun F L nx=>zD6 (F:=F) (L:=L) (nx:=nx) g 7
 simp only[zAT,Gx.row]at hR;by_cases c1:g.due= -1∨now<g.due
 ·have e:zBy g now=(g,[]):=by unfold zBy;rw[if_pos (by omega)]
  rw[e];simp only[zAV,Gx.row];refine bdy Tryz.f75 ?_;intro F3 hF1 hF2;cases d1:(g.due== -1)
  ·have d2:decide (now<g.due)=true:=dT (by have:=ne_of_beq_false d1;omega);simp only[Tryz.f75,d1,d2,go_sem];repeat refine sd2 ?_
   exact ps0
  ·simp only[Tryz.f75,d1,go_sem];repeat refine sd2 ?_
   exact ps0
 have d1:(g.due== -1)=false:=by simp;omega
 have d2:decide (now<g.due)=false:=dF (by omega);have hd':0≤g.due∧g.due≤1099511634176∧1≤g.tr∧g.tr≤8:=by omega
 by_cases c8:g.tr=8
 ·have e:zBy g now=(zAT g 7,[]):=by unfold zBy;rw[if_neg (by omega),if_pos c8]
  rw[e];simp only[zAV,zAT,Gx.row];have d8:(g.tr==8)=true:=by simp[c8]
  refine bdy Tryz.f75 ?_;intro F3 hF1 hF2;simp only[Tryz.f75,d1,d2,d8,go_sem];repeat refine sd2 ?_
  refine CallVC.same (hR _ _ _) ?_;simp only[go_sem];repeat refine sd2 ?_
  exact ps0
 have d8:(g.tr==8)=false:=by simp;omega
 have e:zBy g now=({g with due:=now+wtS g.tr,tr:=g.tr+1},zAj g):=by unfold zBy;rw[if_neg (by omega),if_neg c8]
 rw[e];have hA:=fun F L nx=>zFN (F:=F) (L:=L) (nx:=nx) g ho (hst (by omega))
 have on:=zAx (zAj g);obtain ⟨v,hv⟩:∃v,v=zAV (zAj g):=⟨_,rfl⟩;rw[←hv]at on hA ⊢;obtain ⟨n,hn9⟩:∃n:Nat,g.tr=(n:Int):=⟨g.tr.toNat,by omega⟩;simp only[Gx.row,hn9]at hA ⊢;have n7:1≤n∧n≤7:=by omega
 have wv:∀j:Nat,j≤7→wtS (j:Int)=min (400*2^j) 6400:=fun j hj=>by unfold wtS;rw[qL]
 refine bdy Tryz.f75 ?_;intro F3 hF1 hF2;rw[hn9]at d8;simp only[Tryz.f75,d1,d2,d8,go_sem];repeat refine sd2 ?_
 refine loopK.intro _ _ (I:=fun j:Nat=>⟨[none,some (.int .i64 now),some (.ptr ⟨L+1,0⟩ 0 0),none,some (.ptr ⟨L+1,32⟩ 0 0),some (.nilS),some (.int .i64 (wtS (j:Int))),some (.int .i64 (j:Int))]++oz 37,[(⟨L+1,0⟩,.rows 28 20 true true [[.int .i64 g.st,.int .i64 g.fr,.int .i64 g.tt,.str g.sec,.int .i64 g.own.tag,.int .i64 g.own.win,.int .i64 g.own.out,.int .i64 g.own.inn,.int .i64 g.own.tsn,.str g.own.ck,.int .i64 g.peer.tag,.int .i64 g.peer.win,.int .i64 g.peer.out,.int .i64 g.peer.inn,.int .i64 g.peer.tsn,.str g.peer.ck,.str g.ck,.int .i64 g.ta,.int .i64 g.due,.int .i64 n]]),(⟨L+1,32⟩,.rows 28 20 true true [(zz20 [])])],10000*(j+1)⟩) (pre:=fun j=>j≤n) (μ:=fun j=>n-j) 0 (by omega) ?_ ?_;·exact (so0 hF2 (h1:=by(simp only[go_sem,zAf,and_self,zW,show wtS 0=400 from rfl];try trivial)))
 intro j hj;have hw1:400≤wtS (j:Int)∧wtS (j:Int)≤6400∧wtS ((j:Int)+1)=min (2*wtS (j:Int)) 6400:=by
  have:j=0∨j=1∨j=2∨j=3∨j=4∨j=5∨j=6∨j=7:=by omega
  rcases this with rfl|rfl|rfl|rfl|rfl|rfl|rfl|rfl<;>decide
 by_cases hlt:j<n
 ·have g1:decide ((j:Int)<(n:Int))=true:=dT (by omega);obtain ⟨w,hw⟩:∃w,w=wtS (j:Int):=⟨_,rfl⟩;rw[←hw]at hw1 ⊢;simp only[g1,zA,go_sem];repeat refine sd2 ?_
  refine ⟨j+1,by omega,by omega,?_⟩;exact (so0 hF2 (h1:=by(simp only[go_sem,zAf,and_self,zY,hw1.2.2];try trivial)) (h4:=by simp only[];omega))
 ·have g1:decide ((j:Int)<(n:Int))=false:=dF (by omega);obtain rfl:j=n:=by omega
  obtain ⟨w,hw⟩:∃w,w=wtS (j:Int):=⟨_,rfl⟩;rw[←hw]at hw1 ⊢;simp only[g1,zA,go_sem];repeat refine sd2 ?_
  refine CallVC.same (hA _ _ _) ?_;simp only[zA,go_sem];repeat refine sd2 ?_
  exact ps0 (hf:=by simp[Tx.nf,nfl,on])
theorem zQ3(a b:Ini):(a.tag==b.tag&&(a.win==b.win&&(a.out==b.out&&(a.inn==b.inn&&(a.tsn==b.tsn&&a.ck==b.ck)))))=decide (a=b):=by
 obtain ⟨a1,a2,a3,a4,a5,a6⟩:=a;obtain ⟨b1,b2,b3,b4,b5,b6⟩:=b;rw[qB];simp
theorem zL1{F:SF}{L nx:Nat}(g:Gx)(now:Int)(b:List UInt8)(hg:g.hd=true)(hn:0≤now∧now≤1099511627776)(hb:b.length≤1000000):Con Tryz.prog 119 [.agg (zBB hT kT),.agg g.row,.int .i64 now,.str b] F L nx nx (.tup [.agg (zC9 g now b).1.row,zAV (zC9 g now b).2]) [] []:=by
 have tl:(zBB hT kT).length=2:=rfl;have tn:=zCg hT kT;have hh:=(zUR g).1 hg;have hot:=zUh (zBz hh.2.2.2.2.2.1).1;have hE:zC9 g now b=if b.length=62∧zBX ⟨1,0,(b.drop 6).take 16⟩=true∧zEg ((zBW (b.take 6):Nat):Int)=true∧ckS g ((b.drop 6).take 16) ((zBW (b.take 6):Nat):Int)=b then
   if g.st≤3∧(now<((zBW (b.take 6):Nat):Int)∨60000<now-((zBW (b.take 6):Nat):Int)) then (g,zA9 g (zBj ⟨1,0,(b.drop 6).take 16⟩).tag ⟨6,0,[]⟩)
   else if g.st≤3 then ({zAT g 4 with peer:=zBj ⟨1,0,(b.drop 6).take 16⟩},zAh {zAT g 4 with peer:=zBj ⟨1,0,(b.drop 6).take 16⟩} 11)
   else if g.st=4∧zBj ⟨1,0,(b.drop 6).take 16⟩=g.peer then (g,zAh g 11)
   else (g,[])
  else (g,[]):=rfl
 rw[hE];obtain ⟨u,hu⟩:∃u,u=zBW (b.take 6):=⟨_,rfl⟩;obtain ⟨pb,hpb⟩:∃x,x=(b.drop 6).take 16:=⟨_,rfl⟩;obtain ⟨d,hd⟩:∃x,x=zBj ⟨1,0,pb⟩:=⟨_,rfl⟩;have hpl:pb.length≤16:=by rw[hpb,wI];omega
 have hN:=fun F L nx=>zFj (F:=F) (L:=L) (nx:=nx) (b.take 6) (by rw[wI];omega)
 have hI:=fun F L nx=>zHO (F:=F) (L:=L) (nx:=nx) ⟨1,0,pb⟩ (by show pb.length≤1000000;omega)
 rw[zJX]at hI;unfold zBL at hI;simp only[true_or,if_true,←hd]at hI;have hTi:=fun F L nx=>zGW (F:=F) (L:=L) (nx:=nx) (u:Int)
 rw[←hpb,←hu,←hd];rw[←hu]at hN;clear hE;simp only[Ckx.row,Ini.row,zIni]at hI;refine zUU (zAg (L+1)) rfl rfl (fn:=Tryz.f119) (c:=Tryz.f119.body.getD .skip) (by kernel_rfl) (by rfl) (by kernel_rfl) rfl (by simp) ?_;intro F3 hF1 hF2;refine vcu ⟨[none,none,some (.int .i64 now),some (.str b),some (.ptr ⟨L+1,0⟩ 0 0),some (.ptr ⟨L+1,32⟩ 0 0),none,none,some (.ptr ⟨L+1,64⟩ 0 0),some (.nilS)]++oz 73,[(⟨L+1,0⟩,.rows 53 2 true true [zBB hT kT]),(⟨L+1,32⟩,.rows 28 20 true true [(gR g [])]),(⟨L+1,64⟩,.rows 28 20 true true [(zz20 [])])],10000⟩ ?_ ?_
 ·simp only[Tryz.f119,tl,tn,Gx.row,go_sem];repeat refine sd2 ?_
  exact ⟨(),(so0 hF2)⟩
 by_cases h62:b.length=62;rotate_left
 ·rw[if_neg (by omega)];have f1:(((b.length:Nat):Int) !=62)=true:=by simp;omega
  simp only[zAV,Gx.row];refine VT.of (zAg (L+1)) ?_;simp only[Tryz.f119,f1,go_sem];repeat refine sd2 ?_
  exact ps0
 have f1:(((b.length:Nat):Int) !=62)=false:=by rw[h62];rfl
 refine vcu ⟨[none,none,some (.int .i64 now),some (.str b),some (.ptr ⟨L+1,0⟩ 0 0),some (.ptr ⟨L+1,32⟩ 0 0),none,none,some (.ptr ⟨L+1,64⟩ 0 0),some (.nilS)]++oz 73,[(⟨L+1,0⟩,.rows 53 2 true true [zBB hT kT]),(⟨L+1,32⟩,.rows 28 20 true true [(gR g [])]),(⟨L+1,64⟩,.rows 28 20 true true [(zz20 [])])],20000⟩ ?_ ?_
 ·simp only[Tryz.f119,f1,go_sem];repeat refine sd2 ?_
  exact ⟨(),(so0 hF2)⟩
 have t6:List.take (6-0) (List.drop 0 b)=b.take 6:=rfl;have t22:List.take (22-6) (List.drop 6 b)=pb:=hpb.symm;refine vcu ⟨[none,none,some (.int .i64 now),some (.str b),some (.ptr ⟨L+1,0⟩ 0 0),some (.ptr ⟨L+1,32⟩ 0 0),none,none,some (.ptr ⟨L+1,64⟩ 0 0),some (.nilS),some (.int .i64 (u:Int))]++oz 72,[(⟨L+1,0⟩,.rows 53 2 true true [zBB hT kT]),(⟨L+1,32⟩,.rows 28 20 true true [(gR g [])]),(⟨L+1,64⟩,.rows 28 20 true true [(zz20 [])])],30000⟩ ?_ ?_
 ·simp only[Tryz.f119,h62,vH,uU,go_sem];repeat refine sd2 ?_
  refine CallVC.same (hN _ _ _) ?_;simp only[go_sem];repeat refine sd2 ?_
  exact ⟨(),(so0 hF2)⟩
 cases hio:zBX ⟨1,0,pb⟩
 ·rw[if_neg (by simp)];rw[hio]at hI;simp only[wC,if_false]at hI;simp only[zAV,Gx.row];have e5:((5:Int) !=0)=true:=rfl;refine VT.of (zAg (L+1)) ?_;simp only[Tryz.f119,h62,←hpb,go_sem];repeat refine sd2 ?_
  refine CallVC.same (hI _ _ _) ?_;simp only[e5,go_sem];repeat refine sd2 ?_
  refine ⟨zAA (fun x=>x.i) (by simp only[zA0,List.map];kernel_rfl),?_⟩;repeat refine sd2 ?_
  exact ps0
 rw[hio]at hI;simp only[if_true]at hI;refine vcu ⟨[none,none,some (.int .i64 now),some (.str b),some (.ptr ⟨L+1,0⟩ 0 0),some (.ptr ⟨L+1,32⟩ 0 0),none,none,some (.ptr ⟨L+1,64⟩ 0 0),some (.nilS),some (.int .i64 (u:Int)),some (.ptr ⟨L+1,30192⟩ 0 0),some (.int .i64 0)]++oz 70,[(⟨L+1,0⟩,.rows 53 2 true true [zBB hT kT]),(⟨L+1,32⟩,.rows 28 20 true true [(gR g [])]),(⟨L+1,64⟩,.rows 28 20 true true [(zz20 [])]),(⟨L+1,30192⟩,.rows 26 6 true true [[.int .i64 d.tag,.int .i64 d.win,.int .i64 d.out,.int .i64 d.inn,.int .i64 d.tsn,.str d.ck]])],40000⟩ ?_ ?_
 ·simp only[Tryz.f119,h62,←hpb,go_sem];repeat refine sd2 ?_
  refine CallVC.same (hI _ _ _) ?_;simp only[go_sem];repeat refine sd2 ?_
  exact ⟨(),(so0 hF2)⟩
 have e0:((0:Int) !=0)=false:=rfl;cases htm:zEg (u:Int)
 ·rw[if_neg (by simp)];rw[htm]at hTi;simp only[zAV,Gx.row];refine VT.of (zAg (L+1)) ?_;simp only[Tryz.f119,e0,go_sem];repeat refine sd2 ?_
  refine CallVC.same (hTi _ _ _) ?_;simp only[go_sem];repeat refine sd2 ?_
  refine ⟨zAA (fun x=>x.i) (by simp only[zA0,List.map];kernel_rfl),?_⟩;repeat refine sd2 ?_
  exact ps0
 rw[htm]at hTi;have hu2:=(zBk _).1 htm;have hCk:=fun F L nx=>zFr (F:=F) (L:=L) (nx:=nx) g pb u (by omega) (by omega) ⟨by omega,hot.2⟩ ⟨hh.1,hh.2.1⟩ ⟨hh.2.2.1,hh.2.2.2.1⟩ (by omega)
 simp only[Gx.row]at hCk;by_cases hck:ckS g pb (u:Int)=b;rotate_left
 ·rw[if_neg (by simp[hck])];have f2:(ckS g pb (u:Int)==b)=false:=by simp[hck]
  simp only[zAV,Gx.row];refine VT.of (zAg (L+1)) ?_;simp only[Tryz.f119,e0,go_sem];repeat refine sd2 ?_
  refine CallVC.same (hTi _ _ _) ?_;simp only[h62,←hpb,go_sem];repeat refine sd2 ?_
  refine CallVC.same (hCk _ _ _) ?_;simp only[f2,zN,go_sem];repeat refine sd2 ?_
  refine ⟨zAA (fun x=>x.i) (by simp only[zA0,List.map];kernel_rfl),?_⟩;repeat refine sd2 ?_
  exact ps0
 rw[if_pos ⟨h62,rfl,rfl,hck⟩];have f2:(ckS g pb (u:Int)==b)=true:=by simp[hck]
 refine vcu ⟨[none,none,some (.int .i64 now),none,none,some (.ptr ⟨L+1,32⟩ 0 0),none,none,some (.ptr ⟨L+1,64⟩ 0 0),some (.nilS),some (.int .i64 (u:Int)),some (.ptr ⟨L+1,30192⟩ 0 0)]++oz 71,[(⟨L+1,32⟩,.rows 28 20 true true [(gR g [])]),(⟨L+1,64⟩,.rows 28 20 true true [(zz20 [])]),(⟨L+1,30192⟩,.rows 26 6 true true [[.int .i64 d.tag,.int .i64 d.win,.int .i64 d.out,.int .i64 d.inn,.int .i64 d.tsn,.str d.ck]])],50000⟩ ?_ ?_
 ·simp only[Tryz.f119,e0,go_sem];repeat refine sd2 ?_
  refine CallVC.same (hTi _ _ _) ?_;simp only[h62,←hpb,go_sem];repeat refine sd2 ?_
  refine CallVC.same (hCk _ _ _) ?_;simp only[f2,zN,zT,go_sem];repeat refine sd2 ?_
  refine ⟨zAA (fun x=>x.i) (by simp only[zA0,List.map];kernel_rfl),?_⟩;repeat refine sd2 ?_
  exact ⟨(),(so0 hF2)⟩
 clear hTi hCk hI hN;have hq:=zQ3 d g.peer;have hTl:=fun F L nx=>zB0 (F:=F) (L:=L) (nx:=nx) g 11
 have hTo:=zAx (zAh g 11);simp only[Gx.row]at hTl;by_cases h4:g.st=4∧d=g.peer
 ·rw[if_neg (by omega),if_neg (by omega),if_pos h4];rw[decide_eq_true h4.2]at hq;have s4:(g.st==4)=true:=by simp[h4.1]
  obtain ⟨v,hv⟩:∃v,v=zAV (zAh g 11):=⟨_,rfl⟩;rw[←hv]at hTl hTo;simp only[←hv,Gx.row];refine VT.of (zAg (L+1)) ?_;simp only[Tryz.f119,s4,hq,go_sem];repeat refine sd2 ?_
  refine CallVC.same (hTl _ _ _) ?_;simp only[go_sem];repeat refine sd2 ?_
  refine ⟨zAA (fun x=>x.i) (by simp only[zA0,List.map];kernel_rfl),?_⟩;repeat refine sd2 ?_
  exact ps0 (hf:=by simp[Tx.nf,nfl,hTo])
 refine vcu ⟨[none,none,some (.int .i64 now),none,none,some (.ptr ⟨L+1,32⟩ 0 0),none,none,some (.ptr ⟨L+1,64⟩ 0 0),some (.nilS),some (.int .i64 (u:Int)),some (.ptr ⟨L+1,30192⟩ 0 0)]++oz 71,[(⟨L+1,32⟩,.rows 28 20 true true [(gR g [])]),(⟨L+1,64⟩,.rows 28 20 true true [(zz20 [])]),(⟨L+1,30192⟩,.rows 26 6 true true [[.int .i64 d.tag,.int .i64 d.win,.int .i64 d.out,.int .i64 d.inn,.int .i64 d.tsn,.str d.ck]])],60000⟩ ?_ ?_
 ·by_cases s4:g.st=4
  ·have s4':(g.st==4)=true:=by simp[s4]
   rw[decide_eq_false (by intro h;exact h4 ⟨s4,h⟩)]at hq;simp only[Tryz.f119,s4',hq,go_sem];repeat refine sd2 ?_
   exact ⟨(),(so0 hF2)⟩
  ·have s4':(g.st==4)=false:=by simp[s4]
   simp only[Tryz.f119,s4',go_sem];repeat refine sd2 ?_
   exact ⟨(),(so0 hF2)⟩
 clear hq hTl hTo;by_cases h3:g.st≤3;rotate_left
 ·rw[if_neg (by omega),if_neg h3,if_neg h4];have s3:decide (3<g.st)=true:=dT (by omega);simp only[zAV,Gx.row];refine VT.of (zAg (L+1)) ?_;simp only[Tryz.f119,s3,go_sem];repeat refine sd2 ?_
  exact ps0
 have s3:decide (3<g.st)=false:=dF (by omega);refine vcu ⟨[none,none,some (.int .i64 now),none,none,some (.ptr ⟨L+1,32⟩ 0 0),none,none,some (.ptr ⟨L+1,64⟩ 0 0),some (.nilS),some (.int .i64 (u:Int)),some (.ptr ⟨L+1,30192⟩ 0 0)]++oz 71,[(⟨L+1,32⟩,.rows 28 20 true true [(gR g [])]),(⟨L+1,64⟩,.rows 28 20 true true [(zz20 [])]),(⟨L+1,30192⟩,.rows 26 6 true true [[.int .i64 d.tag,.int .i64 d.win,.int .i64 d.out,.int .i64 d.inn,.int .i64 d.tsn,.str d.ck]])],70000⟩ ?_ ?_
 ·simp only[Tryz.f119,s3,go_sem];repeat refine sd2 ?_
  exact ⟨(),(so0 hF2)⟩
 by_cases hbt:now<(u:Int)∨60000<now-(u:Int)
 ·rw[if_pos ⟨h3,hbt⟩];have hP:=fun F L nx=>zDC (F:=F) (L:=L) (nx:=nx) g d.tag ⟨6,0,[]⟩
  have on:=zAx (zA9 g d.tag ⟨6,0,[]⟩);obtain ⟨v,hv⟩:∃v,v=zAV (zA9 g d.tag ⟨6,0,[]⟩):=⟨_,rfl⟩;rw[←hv]at hP on;simp only[Gx.row,Ckx.row]at hP;simp only[←hv,Gx.row];refine VT.of (zAg (L+1)) ?_;cases b1:decide (now<(u:Int))
  ·have b2:decide (60000<now-(u:Int))=true:=dT (by have:=of_decide_eq_false b1;omega);simp only[Tryz.f119,b1,b2,go_sem];repeat refine sd2 ?_
   refine CallVC.same (hP _ _ _) ?_;simp only[go_sem];repeat refine sd2 ?_
   refine ⟨zAA (fun x=>x.i) (by simp only[zA0,List.map];kernel_rfl),?_⟩;repeat refine sd2 ?_
   exact ps0 (hf:=by simp[Tx.nf,nfl,on])
  ·simp only[Tryz.f119,b1,go_sem];repeat refine sd2 ?_
   refine CallVC.same (hP _ _ _) ?_;simp only[go_sem];repeat refine sd2 ?_
   refine ⟨zAA (fun x=>x.i) (by simp only[zA0,List.map];kernel_rfl),?_⟩;repeat refine sd2 ?_
   exact ps0 (hf:=by simp[Tx.nf,nfl,on])
 have b1:decide (now<(u:Int))=false:=dF (by omega);have b2:decide (60000<now-(u:Int))=false:=dF (by omega);rw[if_neg (by omega),if_pos h3];have hR:=fun F L nx=>zD6 (F:=F) (L:=L) (nx:=nx) g 4
 have hTl:=fun F L nx=>zB0 (F:=F) (L:=L) (nx:=nx) {zAT g 4 with peer:=d} 11
 have on:=zAx (zAh {zAT g 4 with peer:=d} 11);obtain ⟨v,hv⟩:∃v,v=zAV (zAh {zAT g 4 with peer:=d} 11):=⟨_,rfl⟩;rw[←hv]at hTl on;simp only[zAT,Gx.row]at hR hTl;simp only[←hv];simp only[zAT,Gx.row];refine VT.of (zAg (L+1)) ?_;simp only[Tryz.f119,b1,b2,go_sem];repeat refine sd2 ?_
 refine CallVC.same (hR _ _ _) ?_;simp only[go_sem];repeat refine sd2 ?_
 refine CallVC.same (hTl _ _ _) ?_;simp only[go_sem];repeat refine sd2 ?_
 refine ⟨zAA (fun x=>x.i) (by simp only[zA0,List.map];kernel_rfl),?_⟩;repeat refine sd2 ?_
 exact ps0 (hf:=by simp[Tx.nf,nfl,on])
end Go.Proofs.YtifhjhbfhdcahaaGreat
end
