/- Lemmas for the walk: GK153. -/
import Derived.Test.YtifhjhbfhdcahaaGreatP24
set_option linter.all false
section
namespace Go.Proofs.YtifhjhbfhdcahaaGreat
open Go.Tx
set_option maxRecDepth 100000
set_option maxHeartbeats 16000000
theorem zSJ{c:Ckx}(h:zBX c=true)(h1:c.kd=1):c.bd.length=16:=by
 unfold zBX at h;simp only[zC,decide_eq_true_eq]at h;have h2:=congrArg List.length h.2.2.2.2;rw[zEv]at h2;have h3:=h.2.2.1;rw[h1]at h3;have h4:(zBj c).ck=[]:=by
  unfold zCq at h3;split at h3;·assumption
  ·omega
 rw[h4]at h2;simpa using h2.symm
theorem zSK{d:Ini}(h:zAZ d=true){K:List UInt8}(hl:K.length≤200):({d with ck:=K}:Ini).ok=true:=by
 have h2:=(zDX h).1;unfold Ini.ok at h2 ⊢;simp only[zC,decide_eq_true_eq]at h2 ⊢;simp only[h2,and_self,true_and];omega
theorem zPI{F:SF}{L nx:Nat}(g:Gx)(now:Int)(fr tt tag:Int)(c:Ckx)(cs:List Ckx)(hg:g.ok=true)(hn:0≤now∧now≤1099511627776)(hb:c.bd.length≤1000000):Con Tryz.prog 76 [.agg (zBB hT kT),.agg g.row,.int .i64 now,.agg (Pkx.row ⟨fr,tt,tag,c::cs⟩)] F L nx nx (.tup [.agg (zDB g now ⟨fr,tt,tag,c::cs⟩).1.row,zAV (zDB g now ⟨fr,tt,tag,c::cs⟩).2]) [] []:=by
 have tl:(zBB hT kT).length=2:=rfl;have tn:=zCg hT kT;have hd:=zUy hg;have hh:=(zUR g).1 hd;have hpo:=hh.2.2.2.2.2.1;have hot:=zUh (zBz hpo).1;have hst:=zLH (zUZ hg).2;have hE:zDB g now ⟨fr,tt,tag,c::cs⟩=if fr=g.tt∧tt=g.fr then zAQ g now tag c else (g,[]):=rfl
 rw[hE];simp only[Pkx.row,Ckx.row,zL];refine zUU (zAg (L+1)) rfl rfl (fn:=Tryz.f76) (c:=Tryz.f76.body.getD .skip) (by kernel_rfl) (by rfl) (by kernel_rfl) rfl (by simp) ?_;intro F3 hF1 hF2;refine vcu ⟨[none,none,some (.int .i64 now),none,some (.ptr ⟨L+1,0⟩ 0 0),some (.ptr ⟨L+1,32⟩ 0 0),none,some (.ptr ⟨L+1,64⟩ 0 0),some (.ptr ⟨L+1,96⟩ 0 0),some (.nilS)]++oz 199,[(⟨L+1,0⟩,.rows 53 2 true true [zBB hT kT]),(⟨L+1,32⟩,.rows 28 20 true true [(gR g [])]),(⟨L+1,64⟩,.rows 38 4 true true [[.int .i64 fr,.int .i64 tt,.int .i64 tag,.fs 3 ([.int .i64 c.kd,.int .i64 c.fl,.str c.bd]::cs.map Ckx.row)]]),(⟨L+1,96⟩,.rows 28 20 true true [(zz20 [])])],10000⟩ ?_ ?_
 ·simp only[Tryz.f76,tl,tn,Gx.row,go_sem];repeat refine sd2 ?_
  exact ⟨(),(so0 hF2)⟩
 by_cases ha:fr=g.tt;rotate_left
 ·rw[if_neg (by omega)];have f1:(fr !=g.tt)=true:=by simp[ha]
  simp only[zAV,Gx.row];refine VT.of (zAg (L+1)) ?_;simp only[Tryz.f76,f1,go_sem];repeat refine sd2 ?_
  exact ps0
 have f1:(fr !=g.tt)=false:=by simp[ha]
 by_cases hb2:tt=g.fr;rotate_left
 ·rw[if_neg (by omega)];have f2:(tt !=g.fr)=true:=by simp[hb2]
  simp only[zAV,Gx.row];refine VT.of (zAg (L+1)) ?_;simp only[Tryz.f76,f1,f2,go_sem];repeat refine sd2 ?_
  exact ps0
 have f2:(tt !=g.fr)=false:=by simp[hb2]
 rw[if_pos ⟨ha,hb2⟩];refine vcu ⟨[none,none,some (.int .i64 now),none,some (.ptr ⟨L+1,0⟩ 0 0),some (.ptr ⟨L+1,32⟩ 0 0),none,some (.ptr ⟨L+1,64⟩ 0 0),some (.ptr ⟨L+1,96⟩ 0 0),some (.nilS)]++oz 199,[(⟨L+1,0⟩,.rows 53 2 true true [zBB hT kT]),(⟨L+1,32⟩,.rows 28 20 true true [(gR g [])]),(⟨L+1,64⟩,.rows 38 4 true true [[.int .i64 fr,.int .i64 tt,.int .i64 tag,.fs 3 ([.int .i64 c.kd,.int .i64 c.fl,.str c.bd]::cs.map Ckx.row)]]),(⟨L+1,96⟩,.rows 28 20 true true [(zz20 [])])],20000⟩ ?_ ?_
 ·simp only[Tryz.f76,f1,f2,go_sem];repeat refine sd2 ?_
  exact ⟨(),(so0 hF2)⟩
 refine vcu ⟨[none,none,some (.int .i64 now),none,some (.ptr ⟨L+1,0⟩ 0 0),some (.ptr ⟨L+1,32⟩ 0 0),none,some (.ptr ⟨L+1,64⟩ 0 0),some (.ptr ⟨L+1,96⟩ 0 0),some (.nilS),some (.ptr ⟨L+1,20128⟩ 0 0)]++oz 198,[(⟨L+1,0⟩,.rows 53 2 true true [zBB hT kT]),(⟨L+1,32⟩,.rows 28 20 true true [(gR g [])]),(⟨L+1,64⟩,.rows 38 4 true true [[.int .i64 fr,.int .i64 tt,.int .i64 tag,.fs 3 ([.int .i64 c.kd,.int .i64 c.fl,.str c.bd]::cs.map Ckx.row)]]),(⟨L+1,96⟩,.rows 28 20 true true [(zz20 [])]),(⟨L+1,20128⟩,.rows 73 3 true true [[.int .i64 c.kd,.int .i64 c.fl,.str c.bd]])],30000⟩ ?_ ?_
 ·simp only[Tryz.f76,go_sem];repeat refine sd2 ?_
  exact ⟨(),(so0 hF2)⟩
 have hI:=fun F L nx=>zHO (F:=F) (L:=L) (nx:=nx) c hb
 rw[zJX]at hI;unfold zBL at hI;obtain ⟨d,hde⟩:∃x,x=zBj c:=⟨_,rfl⟩;rw[←hde]at hI;simp only[Ckx.row,Ini.row,zIni]at hI;have e5:((5:Int) !=0)=true:=rfl;have e0:((0:Int) !=0)=false:=rfl;by_cases h1:c.kd=1
 ·have k1:(c.kd==1)=true:=by simp[h1]
  rw[if_pos (Or.inl h1)]at hI;have hK:zAQ g now tag c=if zBX c=true∧tag=0∧g.st≤3 then (g,zA9 g d.tag ⟨2,0,Ini.oct {g.own with ck:=ckS g c.bd now}⟩) else (g,[]):=by
   unfold zAQ;rw[if_pos h1,hde];rfl
  rw[hK];cases hio:zBX c
  ·rw[if_neg (by simp)];rw[hio]at hI;simp only[wC,if_false]at hI;simp only[zAV,Gx.row];refine VT.of (zAg (L+1)) ?_;simp only[Tryz.f76,k1,go_sem];repeat refine sd2 ?_
   refine CallVC.same (hI _ _ _) ?_;simp only[e5,go_sem];repeat refine sd2 ?_
   exact ps0
  rw[hio]at hI;simp only[if_true]at hI;by_cases ht0:tag=0;rotate_left
  ·rw[if_neg (by omega)];have f3:(tag !=0)=true:=by simp[ht0]
   simp only[zAV,Gx.row];refine VT.of (zAg (L+1)) ?_;simp only[Tryz.f76,k1,go_sem];repeat refine sd2 ?_
   refine CallVC.same (hI _ _ _) ?_;simp only[e0,f3,go_sem];repeat refine sd2 ?_
   exact ps0
  have f3:(tag !=0)=false:=by simp[ht0]
  by_cases hs3:g.st≤3;rotate_left
  ·rw[if_neg (by omega)];have f4:decide (3<g.st)=true:=dT (by omega);simp only[zAV,Gx.row];refine VT.of (zAg (L+1)) ?_;simp only[Tryz.f76,k1,go_sem];repeat refine sd2 ?_
   refine CallVC.same (hI _ _ _) ?_;simp only[e0,f3,f4,go_sem];repeat refine sd2 ?_
   exact ps0
  have f4:decide (3<g.st)=false:=dF (by omega);rw[if_pos ⟨rfl,ht0,hs3⟩];have hbl:c.bd.length=16:=zSJ hio h1;obtain ⟨u,hu⟩:∃u:Nat,now=(u:Int):=⟨now.toNat,by omega⟩;have hCk:=fun F L nx=>zFr (F:=F) (L:=L) (nx:=nx) g c.bd u (by omega) (by omega) ⟨by omega,hot.2⟩ ⟨hh.1,hh.2.1⟩ ⟨hh.2.2.1,hh.2.2.2.1⟩ (by omega)
  have hcl:=zIh g c.bd now;rw[←hu]at hCk;obtain ⟨K,hKe⟩:∃K,K=ckS g c.bd now:=⟨_,rfl⟩;rw[←hKe]at hCk hcl ⊢;have ho2:=zSK hpo (K:=K) (by omega);have hPI:=fun F L nx=>zDZ (F:=F) (L:=L) (nx:=nx) {g.own with ck:=K} ho2
  have hk2:zCq K=2:=by unfold zCq;rw[if_neg];intro h;rw[h]at hcl;simp at hcl
  have hk3:zCq ({g.own with ck:=K}:Ini).ck=2:=hk2;rw[hk3]at hPI;obtain ⟨O,hO⟩:∃O,O=Ini.oct {g.own with ck:=K}:=⟨_,rfl⟩;rw[←hO]at hPI ⊢;have hP:=fun F L nx=>zDC (F:=F) (L:=L) (nx:=nx) g d.tag ⟨2,0,O⟩
  have on:=zAx (zA9 g d.tag ⟨2,0,O⟩);obtain ⟨v,hv⟩:∃v,v=zAV (zA9 g d.tag ⟨2,0,O⟩):=⟨_,rfl⟩;rw[←hv]at hP on;simp only[Gx.row,Ini.row,Ckx.row]at hP hCk hPI;simp only[←hv,Gx.row];refine VT.of (zAg (L+1)) ?_;simp only[Tryz.f76,k1,go_sem];repeat refine sd2 ?_
  refine CallVC.same (hI _ _ _) ?_;simp only[e0,f3,f4,go_sem];repeat refine sd2 ?_
  refine CallVC.same (hCk _ _ _) ?_;simp only[go_sem];repeat refine sd2 ?_
  refine CallVC.same (hPI _ _ _) ?_;simp only[go_sem];repeat refine sd2 ?_
  refine CallVC.same (hP _ _ _) ?_;simp only[go_sem];repeat refine sd2 ?_
  refine ⟨zAA (fun x=>x.i) (by simp only[zA0,List.map];kernel_rfl),?_⟩;repeat refine sd2 ?_
  exact ps0 (hf:=by simp[Tx.nf,nfl,on])
 have k1:(c.kd==1)=false:=by simp[h1]
 have hK1:zAQ g now tag c=if tag≠g.own.tag then (g,[]) else zAQ g now tag c:=by
  by_cases h:tag=g.own.tag;·rw[if_neg (by omega)]
  ·rw[if_pos h];unfold zAQ;rw[if_neg h1,if_pos h]
 refine vcu ⟨[none,none,some (.int .i64 now),none,some (.ptr ⟨L+1,0⟩ 0 0),some (.ptr ⟨L+1,32⟩ 0 0),none,some (.ptr ⟨L+1,64⟩ 0 0),some (.ptr ⟨L+1,96⟩ 0 0),some (.nilS),some (.ptr ⟨L+1,20128⟩ 0 0)]++oz 198,[(⟨L+1,0⟩,.rows 53 2 true true [zBB hT kT]),(⟨L+1,32⟩,.rows 28 20 true true [(gR g [])]),(⟨L+1,64⟩,.rows 38 4 true true [[.int .i64 fr,.int .i64 tt,.int .i64 tag,.fs 3 ([.int .i64 c.kd,.int .i64 c.fl,.str c.bd]::cs.map Ckx.row)]]),(⟨L+1,96⟩,.rows 28 20 true true [(zz20 [])]),(⟨L+1,20128⟩,.rows 73 3 true true [[.int .i64 c.kd,.int .i64 c.fl,.str c.bd]])],40000⟩ ?_ ?_
 ·simp only[Tryz.f76,k1,go_sem];repeat refine sd2 ?_
  exact ⟨(),(so0 hF2)⟩
 by_cases htg:tag=g.own.tag;rotate_left
 ·rw[hK1,if_pos htg];have f3:(tag !=g.own.tag)=true:=by simp[htg]
  simp only[zAV,Gx.row];refine VT.of (zAg (L+1)) ?_;simp only[Tryz.f76,f3,go_sem];repeat refine sd2 ?_
  exact ps0
 have f3:(tag !=g.own.tag)=false:=by simp[htg]
 clear hK1;refine vcu ⟨[none,none,some (.int .i64 now),none,some (.ptr ⟨L+1,0⟩ 0 0),some (.ptr ⟨L+1,32⟩ 0 0),none,none,some (.ptr ⟨L+1,96⟩ 0 0),some (.nilS),some (.ptr ⟨L+1,20128⟩ 0 0)]++oz 198,[(⟨L+1,0⟩,.rows 53 2 true true [zBB hT kT]),(⟨L+1,32⟩,.rows 28 20 true true [(gR g [])]),(⟨L+1,96⟩,.rows 28 20 true true [(zz20 [])]),(⟨L+1,20128⟩,.rows 73 3 true true [[.int .i64 c.kd,.int .i64 c.fl,.str c.bd]])],50000⟩ ?_ ?_
 ·simp only[Tryz.f76,f3,go_sem];repeat refine sd2 ?_
  exact ⟨(),(so0 hF2)⟩
 refine vcu ⟨[none,none,some (.int .i64 now),none,some (.ptr ⟨L+1,0⟩ 0 0),some (.ptr ⟨L+1,32⟩ 0 0),none,none,some (.ptr ⟨L+1,96⟩ 0 0),some (.nilS),some (.ptr ⟨L+1,20128⟩ 0 0),none,none,none,some (.int .i64 g.st)]++oz 194,[(⟨L+1,0⟩,.rows 53 2 true true [zBB hT kT]),(⟨L+1,32⟩,.rows 28 20 true true [(gR g [])]),(⟨L+1,96⟩,.rows 28 20 true true [(zz20 [])]),(⟨L+1,20128⟩,.rows 73 3 true true [[.int .i64 c.kd,.int .i64 c.fl,.str c.bd]])],60000⟩ ?_ ?_
 ·simp only[Tryz.f76,go_sem];repeat refine sd2 ?_
  exact ⟨(),(so0 hF2)⟩
 have hz:=zLG g.peer;have hR4:=fun F L nx=>zD6 (F:=F) (L:=L) (nx:=nx) g 4
 have hR7:=fun F L nx=>zD6 (F:=F) (L:=L) (nx:=nx) g 7
 simp only[zAT,Gx.row]at hR4 hR7;by_cases hk:c.kd=2
 ·rcases (show g.st=2∨g.st≠2 by omega) with hs|hs
  ·have k2:(c.kd==2)=true:=by rw[hk];rfl
   have k10:(c.kd==10)=false:=by rw[hk];rfl
   have k11:(c.kd==11)=false:=by rw[hk];rfl
   have k7:(c.kd==7)=false:=by rw[hk];rfl
   have k8:(c.kd==8)=false:=by rw[hk];rfl
   have k14:(c.kd==14)=false:=by rw[hk];rfl
   have k6:(c.kd==6)=false:=by rw[hk];rfl
   have s2:(g.st==2)=true:=by simp;omega
   rw[if_pos (Or.inr hk)]at hI;have hK:zAQ g now tag c=zDh g now c:=by unfold zAQ;rw[if_neg h1,if_neg (by omega)];rw[if_pos hk]
   have hK2:zDh g now c=if zBX c=true∧g.st=2 then ({zAG g 3 now with ck:=d.ck,peer:={d with ck:=[]}},zAj {zAG g 3 now with ck:=d.ck,peer:={d with ck:=[]}}) else (g,[]):=by rw[hde];rfl
   rw[hK,hK2];cases hio:zBX c
   ·rw[if_neg (by simp)];rw[hio]at hI;simp only[wC,if_false]at hI;simp only[zAV,Gx.row];refine VT.of (zAg (L+1)) ?_;simp only[Tryz.f76,k2,s2,bne,zN,go_sem];repeat refine sd2 ?_
    refine CallVC.same (hI _ _ _) ?_;simp only[e5,zN,go_sem];repeat refine sd2 ?_
    exact ps0
   rw[hio]at hI;simp only[if_true]at hI;rw[if_pos ⟨rfl,hs⟩];have hTr:=fun F L nx=>zDD (F:=F) (L:=L) (nx:=nx) g 3 now hn
   have hA:=fun F L nx=>zFN (F:=F) (L:=L) (nx:=nx) {zAG g 3 now with ck:=d.ck,peer:={d with ck:=[]}} hpo (.inr (.inl rfl))
   have on:=zAx (zAj {zAG g 3 now with ck:=d.ck,peer:={d with ck:=[]}});obtain ⟨v,hv⟩:∃v,v=zAV (zAj {zAG g 3 now with ck:=d.ck,peer:={d with ck:=[]}}):=⟨_,rfl⟩;rw[←hv]at hA on;simp only[zAG,Gx.row]at hTr hA;simp only[←hv];simp only[zAG,Gx.row];refine VT.of (zAg (L+1)) ?_;simp only[Tryz.f76,k2,s2,bne,zN,go_sem];repeat refine sd2 ?_
   refine CallVC.same (hI _ _ _) ?_;simp only[e0,zN,go_sem];repeat refine sd2 ?_
   refine CallVC.same (hTr _ _ _) ?_;simp only[go_sem];repeat refine sd2 ?_
   refine CallVC.same (hA _ _ _) ?_;simp only[go_sem];repeat refine sd2 ?_
   refine ⟨zAA (fun x=>x.i) (by simp only[zA0,List.map];kernel_rfl),?_⟩;repeat refine sd2 ?_
   exact ps0 (hf:=by simp[Tx.nf,nfl,on])
  ·have k2:(c.kd==2)=true:=by rw[hk];rfl
   have k10:(c.kd==10)=false:=by rw[hk];rfl
   have k11:(c.kd==11)=false:=by rw[hk];rfl
   have k7:(c.kd==7)=false:=by rw[hk];rfl
   have k8:(c.kd==8)=false:=by rw[hk];rfl
   have k14:(c.kd==14)=false:=by rw[hk];rfl
   have k6:(c.kd==6)=false:=by rw[hk];rfl
   have s2:(g.st==2)=false:=by simp;omega
   have hK:zAQ g now tag c=(g,[]):=by unfold zAQ;rw[if_neg h1,if_neg (by omega)];rw[if_pos hk];unfold zDh;rw[if_neg (by omega)]
   rw[hK];simp only[zAV,Gx.row];refine VT.of (zAg (L+1)) ?_;simp only[Tryz.f76,k2,k10,k11,k7,k8,k14,k6,s2,bne,zT,zN,go_sem];repeat refine sd2 ?_
   exact ps0
 have n2:c.kd≠2:=hk;clear hk;by_cases hk:c.kd=10
 ·have hs:=True.intro;have k2:(c.kd==2)=false:=by rw[hk];rfl
  have k10:(c.kd==10)=true:=by rw[hk];rfl
  have k11:(c.kd==11)=false:=by rw[hk];rfl
  have k7:(c.kd==7)=false:=by rw[hk];rfl
  have k8:(c.kd==8)=false:=by rw[hk];rfl
  have k14:(c.kd==14)=false:=by rw[hk];rfl
  have k6:(c.kd==6)=false:=by rw[hk];rfl
  have hK:zAQ g now tag c=zC9 g now c.bd:=by unfold zAQ;rw[if_neg h1,if_neg (by omega)];rw[if_neg (by omega),if_pos hk]
  rw[hK];have hEc:=fun F L nx=>zL1 (F:=F) (L:=L) (nx:=nx) g now c.bd hd hn hb
  have on:=zAx (zC9 g now c.bd).2;obtain ⟨v,hv⟩:∃v,v=zAV (zC9 g now c.bd).2:=⟨_,rfl⟩;obtain ⟨h,hh9⟩:∃h,h=(zC9 g now c.bd).1:=⟨_,rfl⟩;rw[←hv]at on;rw[←hv,←hh9]at hEc ⊢;simp only[Gx.row]at hEc ⊢;refine VT.of (zAg (L+1)) ?_;simp only[Tryz.f76,k2,k10,bne,zT,zN,go_sem];repeat refine sd2 ?_
  refine CallVC.same (hEc _ _ _) ?_;simp only[go_sem];repeat refine sd2 ?_
  exact ps0 (hf:=by simp[Tx.nf,nfl,on])
 have n10:c.kd≠10:=hk;clear hk;by_cases hk:c.kd=11
 ·rcases (show g.st=3∨g.st≠3 by omega) with hs|hs
  ·have k2:(c.kd==2)=false:=by rw[hk];rfl
   have k10:(c.kd==10)=false:=by rw[hk];rfl
   have k11:(c.kd==11)=true:=by rw[hk];rfl
   have k7:(c.kd==7)=false:=by rw[hk];rfl
   have k8:(c.kd==8)=false:=by rw[hk];rfl
   have k14:(c.kd==14)=false:=by rw[hk];rfl
   have k6:(c.kd==6)=false:=by rw[hk];rfl
   have s3:(g.st==3)=true:=by simp;omega
   have hK:zAQ g now tag c=(zAT g 4,[]):=by unfold zAQ;rw[if_neg h1,if_neg (by omega)];rw[if_neg (by omega),if_neg (by omega),if_pos hk];rw[if_pos hs]
   rw[hK];simp only[zAV,zAT,Gx.row];refine VT.of (zAg (L+1)) ?_;simp only[Tryz.f76,k2,k10,k11,s3,bne,zT,zN,go_sem];repeat refine sd2 ?_
   refine CallVC.same (hR4 _ _ _) ?_;simp only[go_sem];repeat refine sd2 ?_
   exact ps0
  ·have k2:(c.kd==2)=false:=by rw[hk];rfl
   have k10:(c.kd==10)=false:=by rw[hk];rfl
   have k11:(c.kd==11)=true:=by rw[hk];rfl
   have k7:(c.kd==7)=false:=by rw[hk];rfl
   have k8:(c.kd==8)=false:=by rw[hk];rfl
   have k14:(c.kd==14)=false:=by rw[hk];rfl
   have k6:(c.kd==6)=false:=by rw[hk];rfl
   have s3:(g.st==3)=false:=by simp;omega
   have hK:zAQ g now tag c=(g,[]):=by unfold zAQ;rw[if_neg h1,if_neg (by omega)];rw[if_neg (by omega),if_neg (by omega),if_pos hk];rw[if_neg (by omega)]
   rw[hK];simp only[zAV,Gx.row];refine VT.of (zAg (L+1)) ?_;simp only[Tryz.f76,k2,k10,k11,k7,k8,k14,k6,s3,bne,zT,zN,go_sem];repeat refine sd2 ?_
   exact ps0
 have n11:c.kd≠11:=hk;clear hk;by_cases hk:c.kd=7
 ·rcases (show g.st=4∨g.st=5∨g.st=6∨(g.st≠4∧g.st≠5∧g.st≠6) by omega) with hs|hs|hs|hs
  ·have k2:(c.kd==2)=false:=by rw[hk];rfl
   have k10:(c.kd==10)=false:=by rw[hk];rfl
   have k11:(c.kd==11)=false:=by rw[hk];rfl
   have k7:(c.kd==7)=true:=by rw[hk];rfl
   have k8:(c.kd==8)=false:=by rw[hk];rfl
   have k14:(c.kd==14)=false:=by rw[hk];rfl
   have k6:(c.kd==6)=false:=by rw[hk];rfl
   have s4:(g.st==4)=true:=by simp;omega
   have hK:zAQ g now tag c=(zAG g 6 now,zAh g 8):=by unfold zAQ;rw[if_neg h1,if_neg (by omega)];rw[if_neg (by omega),if_neg (by omega),if_neg (by omega),if_pos hk];unfold zGI;rw[if_pos (by omega)];rfl
   rw[hK];have hTl:=fun F L nx=>zB0 (F:=F) (L:=L) (nx:=nx) g 8
   have hTr:=fun F L nx=>zDD (F:=F) (L:=L) (nx:=nx) g 6 now hn
   have on:=zAx (zAh g 8);obtain ⟨v,hv⟩:∃v,v=zAV (zAh g 8):=⟨_,rfl⟩;rw[←hv]at hTl on;simp only[zAG,Gx.row]at hTl hTr;simp only[←hv];simp only[zAG,Gx.row];refine VT.of (zAg (L+1)) ?_;simp only[Tryz.f76,k2,k10,k11,k7,s4,bne,zT,zN,go_sem];repeat refine sd2 ?_
   refine CallVC.same (hTr _ _ _) ?_;simp only[go_sem];repeat refine sd2 ?_
   refine CallVC.same (hTl _ _ _) ?_;simp only[go_sem];repeat refine sd2 ?_
   refine ⟨zAA (fun x=>x.i) (by simp only[zA0,List.map];kernel_rfl),?_⟩;repeat refine sd2 ?_
   exact ps0 (hf:=by simp[Tx.nf,nfl,on])
  ·have k2:(c.kd==2)=false:=by rw[hk];rfl
   have k10:(c.kd==10)=false:=by rw[hk];rfl
   have k11:(c.kd==11)=false:=by rw[hk];rfl
   have k7:(c.kd==7)=true:=by rw[hk];rfl
   have k8:(c.kd==8)=false:=by rw[hk];rfl
   have k14:(c.kd==14)=false:=by rw[hk];rfl
   have k6:(c.kd==6)=false:=by rw[hk];rfl
   have s4:(g.st==4)=false:=by simp;omega
   have s5:(g.st==5)=true:=by simp;omega
   have hK:zAQ g now tag c=(zAG g 6 now,zAh g 8):=by unfold zAQ;rw[if_neg h1,if_neg (by omega)];rw[if_neg (by omega),if_neg (by omega),if_neg (by omega),if_pos hk];unfold zGI;rw[if_pos (by omega)];rfl
   rw[hK];have hTl:=fun F L nx=>zB0 (F:=F) (L:=L) (nx:=nx) g 8
   have hTr:=fun F L nx=>zDD (F:=F) (L:=L) (nx:=nx) g 6 now hn
   have on:=zAx (zAh g 8);obtain ⟨v,hv⟩:∃v,v=zAV (zAh g 8):=⟨_,rfl⟩;rw[←hv]at hTl on;simp only[zAG,Gx.row]at hTl hTr;simp only[←hv];simp only[zAG,Gx.row];refine VT.of (zAg (L+1)) ?_;simp only[Tryz.f76,k2,k10,k11,k7,s4,s5,bne,zT,zN,go_sem];repeat refine sd2 ?_
   refine CallVC.same (hTr _ _ _) ?_;simp only[go_sem];repeat refine sd2 ?_
   refine CallVC.same (hTl _ _ _) ?_;simp only[go_sem];repeat refine sd2 ?_
   refine ⟨zAA (fun x=>x.i) (by simp only[zA0,List.map];kernel_rfl),?_⟩;repeat refine sd2 ?_
   exact ps0 (hf:=by simp[Tx.nf,nfl,on])
  ·have k2:(c.kd==2)=false:=by rw[hk];rfl
   have k10:(c.kd==10)=false:=by rw[hk];rfl
   have k11:(c.kd==11)=false:=by rw[hk];rfl
   have k7:(c.kd==7)=true:=by rw[hk];rfl
   have k8:(c.kd==8)=false:=by rw[hk];rfl
   have k14:(c.kd==14)=false:=by rw[hk];rfl
   have k6:(c.kd==6)=false:=by rw[hk];rfl
   have s4:(g.st==4)=false:=by simp;omega
   have s5:(g.st==5)=false:=by simp;omega
   have s6:(g.st==6)=true:=by simp;omega
   have hK:zAQ g now tag c=(g,zAh g 8):=by unfold zAQ;rw[if_neg h1,if_neg (by omega)];rw[if_neg (by omega),if_neg (by omega),if_neg (by omega),if_pos hk];unfold zGI;rw[if_neg (by omega),if_pos hs];unfold zAj;rw[if_neg (by omega),if_neg (by omega),if_neg (by omega),if_pos hs]
   rw[hK];have hTl:=fun F L nx=>zB0 (F:=F) (L:=L) (nx:=nx) g 8
   have hTr:=fun F L nx=>zDD (F:=F) (L:=L) (nx:=nx) g 6 now hn
   have on:=zAx (zAh g 8);obtain ⟨v,hv⟩:∃v,v=zAV (zAh g 8):=⟨_,rfl⟩;rw[←hv]at hTl on;simp only[zAG,Gx.row]at hTl hTr;simp only[←hv];simp only[Gx.row];refine VT.of (zAg (L+1)) ?_;simp only[Tryz.f76,k2,k10,k11,k7,s4,s5,s6,bne,zT,zN,go_sem];repeat refine sd2 ?_
   refine CallVC.same (hTl _ _ _) ?_;simp only[go_sem];repeat refine sd2 ?_
   refine ⟨zAA (fun x=>x.i) (by simp only[zA0,List.map];kernel_rfl),?_⟩;repeat refine sd2 ?_
   exact ps0 (hf:=by simp[Tx.nf,nfl,on])
  ·have k2:(c.kd==2)=false:=by rw[hk];rfl
   have k10:(c.kd==10)=false:=by rw[hk];rfl
   have k11:(c.kd==11)=false:=by rw[hk];rfl
   have k7:(c.kd==7)=true:=by rw[hk];rfl
   have k8:(c.kd==8)=false:=by rw[hk];rfl
   have k14:(c.kd==14)=false:=by rw[hk];rfl
   have k6:(c.kd==6)=false:=by rw[hk];rfl
   have s4:(g.st==4)=false:=by simp;omega
   have s5:(g.st==5)=false:=by simp;omega
   have s6:(g.st==6)=false:=by simp;omega
   have hK:zAQ g now tag c=(g,[]):=by unfold zAQ;rw[if_neg h1,if_neg (by omega)];rw[if_neg (by omega),if_neg (by omega),if_neg (by omega),if_pos hk];unfold zGI;rw[if_neg (by omega),if_neg (by omega)]
   rw[hK];simp only[zAV,Gx.row];refine VT.of (zAg (L+1)) ?_;simp only[Tryz.f76,k2,k10,k11,k7,k8,k14,k6,s4,s5,s6,bne,zT,zN,go_sem];repeat refine sd2 ?_
   exact ps0
 have n7:c.kd≠7:=hk;clear hk;by_cases hk:c.kd=8
 ·have hall:g.st=5∨g.st=6∨(g.st=7∧g.peer≠zIni)∨(g.st=7∧g.peer=zIni)∨(g.st≠5∧g.st≠6∧g.st≠7):=by
   by_cases q:g.st=7
   ·by_cases hz0:g.peer=zIni;·exact .inr (.inr (.inr (.inl ⟨q,hz0⟩)))
    ·exact .inr (.inr (.inl ⟨q,hz0⟩))
   ·rcases (show g.st=5∨g.st=6∨(g.st≠5∧g.st≠6∧g.st≠7) by omega) with h|h|h;·exact .inl h
    ·exact .inr (.inl h)
    ·exact .inr (.inr (.inr (.inr h)))
  rcases hall with hs|hs|hs|hs|hs
  ·have k2:(c.kd==2)=false:=by rw[hk];rfl
   have k10:(c.kd==10)=false:=by rw[hk];rfl
   have k11:(c.kd==11)=false:=by rw[hk];rfl
   have k7:(c.kd==7)=false:=by rw[hk];rfl
   have k8:(c.kd==8)=true:=by rw[hk];rfl
   have k14:(c.kd==14)=false:=by rw[hk];rfl
   have k6:(c.kd==6)=false:=by rw[hk];rfl
   have s5:(g.st==5)=true:=by simp;omega
   have hK:zAQ g now tag c=(zAT g 7,zAh g 14):=by unfold zAQ;rw[if_neg h1,if_neg (by omega)];rw[if_neg (by omega),if_neg (by omega),if_neg (by omega),if_neg (by omega),if_pos hk];unfold zDA;rw[if_pos (Or.inl hs)]
   rw[hK];have hTl:=fun F L nx=>zB0 (F:=F) (L:=L) (nx:=nx) g 14
   have on:=zAx (zAh g 14);obtain ⟨v,hv⟩:∃v,v=zAV (zAh g 14):=⟨_,rfl⟩;rw[←hv]at hTl on;simp only[Gx.row]at hTl;simp only[←hv];simp only[zAT,Gx.row];refine VT.of (zAg (L+1)) ?_;simp only[Tryz.f76,k2,k10,k11,k7,k8,s5,bne,zT,zN,go_sem];repeat refine sd2 ?_
   refine CallVC.same (hR7 _ _ _) ?_;simp only[go_sem];repeat refine sd2 ?_
   refine CallVC.same (hTl _ _ _) ?_;simp only[go_sem];repeat refine sd2 ?_
   refine ⟨zAA (fun x=>x.i) (by simp only[zA0,List.map];kernel_rfl),?_⟩;repeat refine sd2 ?_
   exact ps0 (hf:=by simp[Tx.nf,nfl,on])
  ·have k2:(c.kd==2)=false:=by rw[hk];rfl
   have k10:(c.kd==10)=false:=by rw[hk];rfl
   have k11:(c.kd==11)=false:=by rw[hk];rfl
   have k7:(c.kd==7)=false:=by rw[hk];rfl
   have k8:(c.kd==8)=true:=by rw[hk];rfl
   have k14:(c.kd==14)=false:=by rw[hk];rfl
   have k6:(c.kd==6)=false:=by rw[hk];rfl
   have s5:(g.st==5)=false:=by simp;omega
   have s6:(g.st==6)=true:=by simp;omega
   have hK:zAQ g now tag c=(zAT g 7,zAh g 14):=by unfold zAQ;rw[if_neg h1,if_neg (by omega)];rw[if_neg (by omega),if_neg (by omega),if_neg (by omega),if_neg (by omega),if_pos hk];unfold zDA;rw[if_pos (Or.inr (Or.inl hs))]
   rw[hK];have hTl:=fun F L nx=>zB0 (F:=F) (L:=L) (nx:=nx) g 14
   have on:=zAx (zAh g 14);obtain ⟨v,hv⟩:∃v,v=zAV (zAh g 14):=⟨_,rfl⟩;rw[←hv]at hTl on;simp only[Gx.row]at hTl;simp only[←hv];simp only[zAT,Gx.row];refine VT.of (zAg (L+1)) ?_;simp only[Tryz.f76,k2,k10,k11,k7,k8,s5,s6,bne,zT,zN,go_sem];repeat refine sd2 ?_
   refine CallVC.same (hR7 _ _ _) ?_;simp only[go_sem];repeat refine sd2 ?_
   refine CallVC.same (hTl _ _ _) ?_;simp only[go_sem];repeat refine sd2 ?_
   refine ⟨zAA (fun x=>x.i) (by simp only[zA0,List.map];kernel_rfl),?_⟩;repeat refine sd2 ?_
   exact ps0 (hf:=by simp[Tx.nf,nfl,on])
  ·have k2:(c.kd==2)=false:=by rw[hk];rfl
   have k10:(c.kd==10)=false:=by rw[hk];rfl
   have k11:(c.kd==11)=false:=by rw[hk];rfl
   have k7:(c.kd==7)=false:=by rw[hk];rfl
   have k8:(c.kd==8)=true:=by rw[hk];rfl
   have k14:(c.kd==14)=false:=by rw[hk];rfl
   have k6:(c.kd==6)=false:=by rw[hk];rfl
   have s5:(g.st==5)=false:=by simp;omega
   have s6:(g.st==6)=false:=by simp;omega
   have s7:(g.st==7)=true:=by simp;omega
   have hK:zAQ g now tag c=(zAT g 7,zAh g 14):=by unfold zAQ;rw[if_neg h1,if_neg (by omega)];rw[if_neg (by omega),if_neg (by omega),if_neg (by omega),if_neg (by omega),if_pos hk];unfold zDA;rw[if_pos (Or.inr (Or.inr hs))]
   have hzz:(g.peer==zIni)=false:=by simp[hs.2]
   rw[hzz]at hz;rw[hK];have hTl:=fun F L nx=>zB0 (F:=F) (L:=L) (nx:=nx) g 14
   have on:=zAx (zAh g 14);obtain ⟨v,hv⟩:∃v,v=zAV (zAh g 14):=⟨_,rfl⟩;rw[←hv]at hTl on;simp only[Gx.row]at hTl;simp only[←hv];simp only[zAT,Gx.row];refine VT.of (zAg (L+1)) ?_;simp only[Tryz.f76,k2,k10,k11,k7,k8,s5,s6,s7,bne,zT,zN,hz,go_sem];repeat refine sd2 ?_
   refine CallVC.same (hR7 _ _ _) ?_;simp only[go_sem];repeat refine sd2 ?_
   refine CallVC.same (hTl _ _ _) ?_;simp only[go_sem];repeat refine sd2 ?_
   refine ⟨zAA (fun x=>x.i) (by simp only[zA0,List.map];kernel_rfl),?_⟩;repeat refine sd2 ?_
   exact ps0 (hf:=by simp[Tx.nf,nfl,on])
  ·have k2:(c.kd==2)=false:=by rw[hk];rfl
   have k10:(c.kd==10)=false:=by rw[hk];rfl
   have k11:(c.kd==11)=false:=by rw[hk];rfl
   have k7:(c.kd==7)=false:=by rw[hk];rfl
   have k8:(c.kd==8)=true:=by rw[hk];rfl
   have k14:(c.kd==14)=false:=by rw[hk];rfl
   have k6:(c.kd==6)=false:=by rw[hk];rfl
   have s5:(g.st==5)=false:=by simp;omega
   have s6:(g.st==6)=false:=by simp;omega
   have s7:(g.st==7)=true:=by simp;omega
   have hK:zAQ g now tag c=(g,[]):=by unfold zAQ;rw[if_neg h1,if_neg (by omega)];rw[if_neg (by omega),if_neg (by omega),if_neg (by omega),if_neg (by omega),if_pos hk];unfold zDA;rw[if_neg (by rintro (h|h|h)<;>first|omega|exact h.2 hs.2)]
   rw[hK];have hzz:(g.peer==zIni)=true:=by simp[hs.2]
   rw[hzz]at hz;have hz2:(!(g.peer.tag==0&&(g.peer.win==0&&(g.peer.out==0&&(g.peer.inn==0&&(g.peer.tsn==0&&g.peer.ck== []))))))=false:=by rw[hz];rfl
   clear hz hzz;simp only[zAV,Gx.row];refine VT.of (zAg (L+1)) ?_;simp (maxSteps:=1000000) only[Tryz.f76,tlC,vT,cx,k2,k10,k11,k7,k8,k14,k6,s5,s6,s7,bne,zT,zN,hz2,Nat.reduceBEq,Nat.reduceAdd,wH,go_sem,meths,Nat.reduceAdd,Nat.reduceEqDiff,Nat.reduceLT,Nat.reduceLeDiff,Nat.reduceBEq,reduceCtorEq];repeat refine sd2 ?_
   exact ps0
  ·have k2:(c.kd==2)=false:=by rw[hk];rfl
   have k10:(c.kd==10)=false:=by rw[hk];rfl
   have k11:(c.kd==11)=false:=by rw[hk];rfl
   have k7:(c.kd==7)=false:=by rw[hk];rfl
   have k8:(c.kd==8)=true:=by rw[hk];rfl
   have k14:(c.kd==14)=false:=by rw[hk];rfl
   have k6:(c.kd==6)=false:=by rw[hk];rfl
   have s5:(g.st==5)=false:=by simp;omega
   have s6:(g.st==6)=false:=by simp;omega
   have s7:(g.st==7)=false:=by simp;omega
   have hK:zAQ g now tag c=(g,[]):=by unfold zAQ;rw[if_neg h1,if_neg (by omega)];rw[if_neg (by omega),if_neg (by omega),if_neg (by omega),if_neg (by omega),if_pos hk];unfold zDA;rw[if_neg (by omega)]
   rw[hK];simp only[zAV,Gx.row];refine VT.of (zAg (L+1)) ?_;simp only[Tryz.f76,k2,k10,k11,k7,k8,k14,k6,s5,s6,s7,bne,zT,zN,go_sem];repeat refine sd2 ?_
   exact ps0
 have n8:c.kd≠8:=hk;clear hk;by_cases hk:c.kd=14
 ·rcases (show g.st=6∨g.st≠6 by omega) with hs|hs
  ·have k2:(c.kd==2)=false:=by rw[hk];rfl
   have k10:(c.kd==10)=false:=by rw[hk];rfl
   have k11:(c.kd==11)=false:=by rw[hk];rfl
   have k7:(c.kd==7)=false:=by rw[hk];rfl
   have k8:(c.kd==8)=false:=by rw[hk];rfl
   have k14:(c.kd==14)=true:=by rw[hk];rfl
   have k6:(c.kd==6)=false:=by rw[hk];rfl
   have s6:(g.st==6)=true:=by simp;omega
   have hK:zAQ g now tag c=(zAT g 7,[]):=by unfold zAQ;rw[if_neg h1,if_neg (by omega)];rw[if_neg (by omega),if_neg (by omega),if_neg (by omega),if_neg (by omega),if_neg (by omega),if_pos hk];rw[if_pos hs]
   rw[hK];simp only[zAV,zAT,Gx.row];refine VT.of (zAg (L+1)) ?_;simp only[Tryz.f76,k2,k10,k11,k7,k8,k14,s6,bne,zT,zN,go_sem];repeat refine sd2 ?_
   refine CallVC.same (hR7 _ _ _) ?_;simp only[go_sem];repeat refine sd2 ?_
   exact ps0
  ·have k2:(c.kd==2)=false:=by rw[hk];rfl
   have k10:(c.kd==10)=false:=by rw[hk];rfl
   have k11:(c.kd==11)=false:=by rw[hk];rfl
   have k7:(c.kd==7)=false:=by rw[hk];rfl
   have k8:(c.kd==8)=false:=by rw[hk];rfl
   have k14:(c.kd==14)=true:=by rw[hk];rfl
   have k6:(c.kd==6)=false:=by rw[hk];rfl
   have s6:(g.st==6)=false:=by simp;omega
   have hK:zAQ g now tag c=(g,[]):=by unfold zAQ;rw[if_neg h1,if_neg (by omega)];rw[if_neg (by omega),if_neg (by omega),if_neg (by omega),if_neg (by omega),if_neg (by omega),if_pos hk];rw[if_neg (by omega)]
   rw[hK];simp only[zAV,Gx.row];refine VT.of (zAg (L+1)) ?_;simp only[Tryz.f76,k2,k10,k11,k7,k8,k14,k6,s6,bne,zT,zN,go_sem];repeat refine sd2 ?_
   exact ps0
 have n14:c.kd≠14:=hk;clear hk;by_cases hk:c.kd=6
 ·rcases (show (g.st≠1∧g.st≠7)∨g.st=1∨g.st=7 by omega) with hs|hs|hs
  ·have k2:(c.kd==2)=false:=by rw[hk];rfl
   have k10:(c.kd==10)=false:=by rw[hk];rfl
   have k11:(c.kd==11)=false:=by rw[hk];rfl
   have k7:(c.kd==7)=false:=by rw[hk];rfl
   have k8:(c.kd==8)=false:=by rw[hk];rfl
   have k14:(c.kd==14)=false:=by rw[hk];rfl
   have k6:(c.kd==6)=true:=by rw[hk];rfl
   have s1:(g.st==1)=false:=by simp;omega
   have s7:(g.st==7)=false:=by simp;omega
   have hK:zAQ g now tag c=(zAT g 7,[]):=by unfold zAQ;rw[if_neg h1,if_neg (by omega)];rw[if_neg (by omega),if_neg (by omega),if_neg (by omega),if_neg (by omega),if_neg (by omega),if_neg (by omega),if_pos hk];rw[if_neg (by omega)]
   rw[hK];simp only[zAV,zAT,Gx.row];refine VT.of (zAg (L+1)) ?_;simp only[Tryz.f76,k2,k10,k11,k7,k8,k14,k6,s1,s7,bne,zT,zN,go_sem];repeat refine sd2 ?_
   refine CallVC.same (hR7 _ _ _) ?_;simp only[go_sem];repeat refine sd2 ?_
   exact ps0
  ·have k2:(c.kd==2)=false:=by rw[hk];rfl
   have k10:(c.kd==10)=false:=by rw[hk];rfl
   have k11:(c.kd==11)=false:=by rw[hk];rfl
   have k7:(c.kd==7)=false:=by rw[hk];rfl
   have k8:(c.kd==8)=false:=by rw[hk];rfl
   have k14:(c.kd==14)=false:=by rw[hk];rfl
   have k6:(c.kd==6)=true:=by rw[hk];rfl
   have s1:(g.st==1)=true:=by simp;omega
   have hK:zAQ g now tag c=(g,[]):=by unfold zAQ;rw[if_neg h1,if_neg (by omega)];rw[if_neg (by omega),if_neg (by omega),if_neg (by omega),if_neg (by omega),if_neg (by omega),if_neg (by omega),if_pos hk];rw[if_pos (by omega)]
   rw[hK];simp only[zAV,Gx.row];refine VT.of (zAg (L+1)) ?_;simp only[Tryz.f76,k2,k10,k11,k7,k8,k14,k6,s1,bne,zT,zN,go_sem];repeat refine sd2 ?_
   exact ps0
  ·have k2:(c.kd==2)=false:=by rw[hk];rfl
   have k10:(c.kd==10)=false:=by rw[hk];rfl
   have k11:(c.kd==11)=false:=by rw[hk];rfl
   have k7:(c.kd==7)=false:=by rw[hk];rfl
   have k8:(c.kd==8)=false:=by rw[hk];rfl
   have k14:(c.kd==14)=false:=by rw[hk];rfl
   have k6:(c.kd==6)=true:=by rw[hk];rfl
   have s1:(g.st==1)=false:=by simp;omega
   have s7:(g.st==7)=true:=by simp;omega
   have hK:zAQ g now tag c=(g,[]):=by unfold zAQ;rw[if_neg h1,if_neg (by omega)];rw[if_neg (by omega),if_neg (by omega),if_neg (by omega),if_neg (by omega),if_neg (by omega),if_neg (by omega),if_pos hk];rw[if_pos (by omega)]
   rw[hK];simp only[zAV,Gx.row];refine VT.of (zAg (L+1)) ?_;simp only[Tryz.f76,k2,k10,k11,k7,k8,k14,k6,s1,s7,bne,zT,zN,go_sem];repeat refine sd2 ?_
   exact ps0
 have n6:c.kd≠6:=hk;clear hk;have hk:(c.kd≠2∧c.kd≠10∧c.kd≠11∧c.kd≠7∧c.kd≠8∧c.kd≠14∧c.kd≠6):=⟨n2,n10,n11,n7,n8,n14,n6⟩;have k2:(c.kd==2)=false:=by simp;omega
 have k10:(c.kd==10)=false:=by simp;omega
 have k11:(c.kd==11)=false:=by simp;omega
 have k7:(c.kd==7)=false:=by simp;omega
 have k8:(c.kd==8)=false:=by simp;omega
 have k14:(c.kd==14)=false:=by simp;omega
 have k6:(c.kd==6)=false:=by simp;omega
 have hK:zAQ g now tag c=(g,[]):=by unfold zAQ;rw[if_neg h1,if_neg (by omega)];rw[if_neg (by omega),if_neg (by omega),if_neg (by omega),if_neg (by omega),if_neg (by omega),if_neg (by omega),if_neg (by omega)]
 rw[hK];simp only[zAV,Gx.row];refine VT.of (zAg (L+1)) ?_;simp only[Tryz.f76,k2,k10,k11,k7,k8,k14,k6,bne,zT,zN,go_sem];repeat refine sd2 ?_
 exact ps0
end Go.Proofs.YtifhjhbfhdcahaaGreat
end
