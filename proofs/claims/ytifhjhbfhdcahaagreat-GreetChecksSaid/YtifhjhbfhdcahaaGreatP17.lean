/- Lemmas for the walk: GK94, GK95, U46, GK96. -/
import Derived.Test.YtifhjhbfhdcahaaGreatP16
import Derived.Test.YtifhjhbfhdcahaaGreatP11
import Derived.Test.YtifhjhbfhdcahaaGreatP13
set_option linter.all false
section
namespace Go.Proofs.YtifhjhbfhdcahaaGreat
open Go.Tx
set_option maxRecDepth 100000
set_option maxHeartbeats 16000000
theorem zHI{c:Ckx}(hk:c.kd=1)(h:zBX c=true):(zBj c).ok=true∧(zBj c).ck=[]∧c.bd.length=16∧(zBj c).oct=c.bd:=by
 unfold zBX at h;simp only[zC,decide_eq_true_eq]at h;obtain ⟨h1,h2,h3,h4,h5⟩:=h;rw[hk]at h3;have hn:(zBj c).ck=[]:=by
  unfold zCq at h3;split at h3;·assumption
  ·cases h3
 refine ⟨h2,hn,?_,h5⟩;have:(zBj c).ck=c.bd.drop 16:=rfl;rw[this]at hn;have:=congrArg List.length hn;simp at this;omega
theorem zNV{d:Ini}{k:List UInt8}(h:d.ok=true)(hk:k.length≤200):Ini.ok {d with ck:=k}=true:=by
 unfold Ini.ok at h ⊢;simp only[zC,decide_eq_true_eq]at h ⊢;obtain ⟨h1,h2,h3,h4,h5,h6⟩:=h;exact ⟨h1,h2,h3,h4,h5,by omega⟩
theorem zNW{F:SF}{L nx:Nat}(m:Nm)(hm:m.l≤L)(g:Gx)(now:Int)(p:Pkx)(c:Ckx)(hF:F m=some (.rows 123 22 true true [g.mrow now .nilS])):
  Con Tryz.prog 104 [.ptr m 0 0,.agg p.row,.agg c.row] F L nx nx (.tup []) [(m,.rows 123 22 true true [(if g.st=3 then (zAT g 4,([]:List Pkx)) else (g,[])).1.mrow now (zAV (if g.st=3 then (zAT g 4,([]:List Pkx)) else (g,[])).2)])] [m]:=by
 have m1:∀k,(m=(⟨L+1,k⟩:Nm))=False:=zAI hm;have m2:∀k,((⟨L+1,k⟩:Nm)=m)=False:=zAF hm;by_cases h1:g.st=3
 ·rw[if_pos h1];have s1:(g.st==3)=true:=by simp;omega
  have hr:=fun(F:SF) (nx:Nat) (hF:F m=_)=>zCH (F:=F) (L:=L+1) (nx:=nx) m (by omega) g now .nilS 4 hF
  simp only[Gx.mrow,Gx.row,Ckx.row,Pkx.row,zAT,zJ,zF,zAV]at hF hr ⊢;refine bdy Tryz.f104 (hrd:=(by simp;omega)) ?_;intro F3 hF1 hF2;have kq:=(hF1 m (by simp)).trans hF;simp only[Tryz.f104,kq,m1,s1,go_sem];repeat refine sd2 ?_
  refine CallVC.same (hr _ _ (by simp[kq,m1])) ?_;simp only[m1,go_sem];repeat refine sd2 ?_
  exact po0 (.tup []) ⟨hm,by simp[Tx.look,BW,m1],trivial⟩ (by simp[UpdAll,keys,m2])
 ·rw[if_neg h1];have s1:(g.st==3)=false:=by simp;omega
  simp only[Gx.mrow,Gx.row,Ckx.row,Pkx.row,zJ,zF,zAV]at hF ⊢;refine bdy Tryz.f104 (hrd:=(by simp;omega)) ?_;intro F3 hF1 hF2;have kq:=(hF1 m (by simp)).trans hF;simp only[Tryz.f104,kq,m1,s1,go_sem];repeat refine sd2 ?_
  exact po0 (.tup []) ⟨hm,by simp[Tx.look,BW,m1,kq],trivial⟩ (by simp[UpdAll,keys,m2])
theorem zNX{F:SF}{L nx:Nat}(m:Nm)(hm:m.l≤L)(g:Gx)(now:Int)(p:Pkx)(c:Ckx)(hF:F m=some (.rows 123 22 true true [g.mrow now .nilS])):
  Con Tryz.prog 107 [.ptr m 0 0,.agg p.row,.agg c.row] F L nx nx (.tup []) [(m,.rows 123 22 true true [(if g.st=6 then (zAT g 7,([]:List Pkx)) else (g,[])).1.mrow now (zAV (if g.st=6 then (zAT g 7,([]:List Pkx)) else (g,[])).2)])] [m]:=by
 have m1:∀k,(m=(⟨L+1,k⟩:Nm))=False:=zAI hm;have m2:∀k,((⟨L+1,k⟩:Nm)=m)=False:=zAF hm;by_cases h1:g.st=6
 ·rw[if_pos h1];have s1:(g.st==6)=true:=by simp;omega
  have hr:=fun(F:SF) (nx:Nat) (hF:F m=_)=>zCH (F:=F) (L:=L+1) (nx:=nx) m (by omega) g now .nilS 7 hF
  simp only[Gx.mrow,Gx.row,Ckx.row,Pkx.row,zAT,zJ,zF,zAV]at hF hr ⊢;refine bdy Tryz.f107 (hrd:=(by simp;omega)) ?_;intro F3 hF1 hF2;have kq:=(hF1 m (by simp)).trans hF;simp only[Tryz.f107,kq,m1,s1,go_sem];repeat refine sd2 ?_
  refine CallVC.same (hr _ _ (by simp[kq,m1])) ?_;simp only[m1,go_sem];repeat refine sd2 ?_
  exact po0 (.tup []) ⟨hm,by simp[Tx.look,BW,m1],trivial⟩ (by simp[UpdAll,keys,m2])
 ·rw[if_neg h1];have s1:(g.st==6)=false:=by simp;omega
  simp only[Gx.mrow,Gx.row,Ckx.row,Pkx.row,zJ,zF,zAV]at hF ⊢;refine bdy Tryz.f107 (hrd:=(by simp;omega)) ?_;intro F3 hF1 hF2;have kq:=(hF1 m (by simp)).trans hF;simp only[Tryz.f107,kq,m1,s1,go_sem];repeat refine sd2 ?_
  exact po0 (.tup []) ⟨hm,by simp[Tx.look,BW,m1,kq],trivial⟩ (by simp[UpdAll,keys,m2])
theorem zKJ{F:SF}{L nx:Nat}(m:Nm)(hm:m.l≤L)(g:Gx)(now:Int)(p:Pkx)(c:Ckx)(hF:F m=some (.rows 123 22 true true [g.mrow now .nilS])):
  Con Tryz.prog 108 [.ptr m 0 0,.agg p.row,.agg c.row] F L nx nx (.tup []) [(m,.rows 123 22 true true [(if g.st=1∨g.st=7 then (g,([]:List Pkx)) else (zAT g 7,[])).1.mrow now (zAV (if g.st=1∨g.st=7 then (g,([]:List Pkx)) else (zAT g 7,[])).2)])] [m]:=by
 have m1:∀k,(m=(⟨L+1,k⟩:Nm))=False:=zAI hm;have m2:∀k,((⟨L+1,k⟩:Nm)=m)=False:=zAF hm;by_cases h1:g.st=1
 ·rw[if_pos (.inl h1)];have s1:(g.st !=1)=false:=by simp;omega
  simp only[Gx.mrow,Gx.row,Ckx.row,Pkx.row,zJ,zF,zAV]at hF ⊢;refine bdy Tryz.f108 (hrd:=(by simp;omega)) ?_;intro F3 hF1 hF2;have kq:=(hF1 m (by simp)).trans hF;simp only[Tryz.f108,kq,m1,s1,go_sem];repeat refine sd2 ?_
  exact po0 (.tup []) ⟨hm,by simp[Tx.look,BW,m1,kq],trivial⟩ (by simp[UpdAll,keys,m2])
 have s1:(g.st !=1)=true:=by simp;omega
 by_cases h7:g.st=7
 ·rw[if_pos (.inr h7)];have s7:(g.st !=7)=false:=by simp;omega
  simp only[Gx.mrow,Gx.row,Ckx.row,Pkx.row,zJ,zF,zAV]at hF ⊢;refine bdy Tryz.f108 (hrd:=(by simp;omega)) ?_;intro F3 hF1 hF2;have kq:=(hF1 m (by simp)).trans hF;simp only[Tryz.f108,kq,m1,s1,s7,go_sem];repeat refine sd2 ?_
  exact po0 (.tup []) ⟨hm,by simp[Tx.look,BW,m1,kq],trivial⟩ (by simp[UpdAll,keys,m2])
 rw[if_neg (by omega)];have s7:(g.st !=7)=true:=by simp;omega
 have hr:=fun(F:SF) (nx:Nat) (hF:F m=_)=>zCH (F:=F) (L:=L+1) (nx:=nx) m (by omega) g now .nilS 7 hF
 simp only[Gx.mrow,Gx.row,Ckx.row,Pkx.row,zAT,zJ,zF,zAV]at hF hr ⊢;refine bdy Tryz.f108 (hrd:=(by simp;omega)) ?_;intro F3 hF1 hF2;have kq:=(hF1 m (by simp)).trans hF;simp only[Tryz.f108,kq,m1,s1,s7,go_sem];repeat refine sd2 ?_
 refine CallVC.same (hr _ _ (by simp[kq,m1])) ?_;simp only[m1,go_sem];repeat refine sd2 ?_
 exact po0 (.tup []) ⟨hm,by simp[Tx.look,BW,m1],trivial⟩ (by simp[UpdAll,keys,m2])
theorem zO3{F:SF}{L nx:Nat}(m:Nm)(hm:m.l≤L)(g:Gx)(now:Int)(p:Pkx)(c:Ckx)(hn:0≤now∧now≤1099511627776)(ho:g.own.ok=true∧g.own.ck=[])(hF:F m=some (.rows 123 22 true true [g.mrow now .nilS])):
  Con Tryz.prog 105 [.ptr m 0 0,.agg p.row,.agg c.row] F L nx nx (.tup []) [(m,.rows 123 22 true true [(zGI g now).1.mrow now (zAV (zGI g now).2)])] [m]:=by
 have m1:∀k,(m=(⟨L+1,k⟩:Nm))=False:=zAI hm;have m2:∀k,((⟨L+1,k⟩:Nm)=m)=False:=zAF hm;unfold zGI;by_cases h4:g.st=4
 ·rw[if_pos (by omega)];have s4:(g.st==4)=true:=by simp;omega
  have hb:=fun(F:SF) (nx:Nat) (hF:F m=_)=>zD3 (F:=F) (L:=L+1) (nx:=nx) m (by omega) g now .nilS 6 hn hF
  have ha:=fun(F:SF) (nx:Nat) (hF:F m=_)=>zCe (F:=F) (L:=L+1) (nx:=nx) m (by omega) (zAG g 6 now) now ho hF
  obtain ⟨o,hoo⟩:∃o,o=zAV (zAj (zAG g 6 now)):=⟨_,rfl⟩;rw[←hoo];simp only[←hoo]at ha;simp only[Gx.mrow,Gx.row,Ckx.row,Pkx.row,zAG,zJ,zF]at hF hb ha ⊢;refine bdy Tryz.f105 (hrd:=(by simp;omega)) ?_;intro F3 hF1 hF2;have kq:=(hF1 m (by simp)).trans hF;simp only[Tryz.f105,kq,m1,s4,go_sem];repeat refine sd2 ?_
  refine CallVC.same (hb _ _ (by simp[kq,m1])) ?_;simp only[m1,go_sem];repeat refine sd2 ?_
  refine CallVC.same (ha _ _ (by simp[m1])) ?_;simp only[m1,go_sem];repeat refine sd2 ?_
  exact po0 (.tup []) ⟨hm,by simp[Tx.look,BW,m1],trivial⟩ (by simp[UpdAll,keys,m2])
 by_cases h5:g.st=5
 ·rw[if_pos (by omega)];have s4:(g.st==4)=false:=by simp;omega
  have s5:(g.st==5)=true:=by simp;omega
  have hb:=fun(F:SF) (nx:Nat) (hF:F m=_)=>zD3 (F:=F) (L:=L+1) (nx:=nx) m (by omega) g now .nilS 6 hn hF
  have ha:=fun(F:SF) (nx:Nat) (hF:F m=_)=>zCe (F:=F) (L:=L+1) (nx:=nx) m (by omega) (zAG g 6 now) now ho hF
  obtain ⟨o,hoo⟩:∃o,o=zAV (zAj (zAG g 6 now)):=⟨_,rfl⟩;rw[←hoo];simp only[←hoo]at ha;simp only[Gx.mrow,Gx.row,Ckx.row,Pkx.row,zAG,zJ,zF]at hF hb ha ⊢;refine bdy Tryz.f105 (hrd:=(by simp;omega)) ?_;intro F3 hF1 hF2;have kq:=(hF1 m (by simp)).trans hF;simp only[Tryz.f105,kq,m1,s4,s5,go_sem];repeat refine sd2 ?_
  refine CallVC.same (hb _ _ (by simp[kq,m1])) ?_;simp only[m1,go_sem];repeat refine sd2 ?_
  refine CallVC.same (ha _ _ (by simp[m1])) ?_;simp only[m1,go_sem];repeat refine sd2 ?_
  exact po0 (.tup []) ⟨hm,by simp[Tx.look,BW,m1],trivial⟩ (by simp[UpdAll,keys,m2])
 rw[if_neg (by omega)];have s4:(g.st==4)=false:=by simp;omega
 have s5:(g.st==5)=false:=by simp;omega
 by_cases h6:g.st=6
 ·rw[if_pos h6];have s6:(g.st==6)=true:=by simp;omega
  have ha:=fun(F:SF) (nx:Nat) (hF:F m=_)=>zCe (F:=F) (L:=L+1) (nx:=nx) m (by omega) g now ho hF
  obtain ⟨o,hoo⟩:∃o,o=zAV (zAj g):=⟨_,rfl⟩;rw[←hoo];simp only[←hoo]at ha;simp only[Gx.mrow,Gx.row,Ckx.row,Pkx.row,zJ,zF]at hF ha ⊢;refine bdy Tryz.f105 (hrd:=(by simp;omega)) ?_;intro F3 hF1 hF2;have kq:=(hF1 m (by simp)).trans hF;simp only[Tryz.f105,kq,m1,s4,s5,s6,go_sem];repeat refine sd2 ?_
  refine CallVC.same (ha _ _ (by simp[kq,m1])) ?_;simp only[m1,go_sem];repeat refine sd2 ?_
  exact po0 (.tup []) ⟨hm,by simp[Tx.look,BW,m1],trivial⟩ (by simp[UpdAll,keys,m2])
 rw[if_neg h6];have s6:(g.st==6)=false:=by simp;omega
 simp only[Gx.mrow,Gx.row,Ckx.row,Pkx.row,zJ,zF,zAV]at hF ⊢;refine bdy Tryz.f105 (hrd:=(by simp;omega)) ?_;intro F3 hF1 hF2;have kq:=(hF1 m (by simp)).trans hF;simp only[Tryz.f105,kq,m1,s4,s5,s6,go_sem];repeat refine sd2 ?_
 exact po0 (.tup []) ⟨hm,by simp[Tx.look,BW,m1,kq],trivial⟩ (by simp[UpdAll,keys,m2])
theorem zNY{F:SF}{L nx:Nat}(m:Nm)(hm:m.l≤L)(g:Gx)(now:Int)(p:Pkx)(c:Ckx)(hF:F m=some (.rows 123 22 true true [g.mrow now .nilS])):
  Con Tryz.prog 106 [.ptr m 0 0,.agg p.row,.agg c.row] F L nx nx (.tup []) [(m,.rows 123 22 true true [(zDA g).1.mrow now (zAV (zDA g).2)])] [m]:=by
 have m1:∀k,(m=(⟨L+1,k⟩:Nm))=False:=zAI hm;have m2:∀k,((⟨L+1,k⟩:Nm)=m)=False:=zAF hm;unfold zDA;have hz:((g.peer.tag==0)&&((g.peer.win==0)&&((g.peer.out==0)&&((g.peer.inn==0)&&((g.peer.tsn==0)&&g.peer.ck== [])))))=(g.peer==zIni):=zM6 g.peer;by_cases h5:g.st=5
 ·rw[if_pos (.inl h5)];have s7:(g.st==7)=false:=by simp;omega
  have s5:(g.st !=5)=false:=by simp;omega
  have ht:=fun(F:SF) (nx:Nat) (hF:F m=_)=>zCl (F:=F) (L:=L+1) (nx:=nx) m (by omega) g now 14 hF
  have hr:=fun(F:SF) (nx:Nat) (hF:F m=_)=>zCH (F:=F) (L:=L+1) (nx:=nx) m (by omega) g now (zAV (zAh g 14)) 7 hF
  obtain ⟨o,hoo⟩:∃o,o=zAV (zAh g 14):=⟨_,rfl⟩;rw[←hoo];simp only[←hoo]at ht hr;simp only[Gx.mrow,Gx.row,Ckx.row,Pkx.row,zAT,zJ,zF]at hF ht hr ⊢;refine bdy Tryz.f106 (hrd:=(by simp;omega)) ?_;intro F3 hF1 hF2;have kq:=(hF1 m (by simp)).trans hF;simp only[Tryz.f106,kq,m1,s7,s5,go_sem];repeat refine sd2 ?_
  refine CallVC.same (ht _ _ (by simp[kq,m1])) ?_;simp only[m1,go_sem];repeat refine sd2 ?_
  refine CallVC.same (hr _ _ (by simp[m1])) ?_;simp only[m1,go_sem];repeat refine sd2 ?_
  exact po0 (.tup []) ⟨hm,by simp[Tx.look,BW,m1],trivial⟩ (by simp[UpdAll,keys,m2])
 by_cases h6:g.st=6
 ·rw[if_pos (.inr (.inl h6))];have s7:(g.st==7)=false:=by simp;omega
  have s5:(g.st !=5)=true:=by simp;omega
  have s6:(g.st !=6)=false:=by simp;omega
  have ht:=fun(F:SF) (nx:Nat) (hF:F m=_)=>zCl (F:=F) (L:=L+1) (nx:=nx) m (by omega) g now 14 hF
  have hr:=fun(F:SF) (nx:Nat) (hF:F m=_)=>zCH (F:=F) (L:=L+1) (nx:=nx) m (by omega) g now (zAV (zAh g 14)) 7 hF
  obtain ⟨o,hoo⟩:∃o,o=zAV (zAh g 14):=⟨_,rfl⟩;rw[←hoo];simp only[←hoo]at ht hr;simp only[Gx.mrow,Gx.row,Ckx.row,Pkx.row,zAT,zJ,zF]at hF ht hr ⊢;refine bdy Tryz.f106 (hrd:=(by simp;omega)) ?_;intro F3 hF1 hF2;have kq:=(hF1 m (by simp)).trans hF;simp only[Tryz.f106,kq,m1,s7,s5,s6,go_sem];repeat refine sd2 ?_
  refine CallVC.same (ht _ _ (by simp[kq,m1])) ?_;simp only[m1,go_sem];repeat refine sd2 ?_
  refine CallVC.same (hr _ _ (by simp[m1])) ?_;simp only[m1,go_sem];repeat refine sd2 ?_
  exact po0 (.tup []) ⟨hm,by simp[Tx.look,BW,m1],trivial⟩ (by simp[UpdAll,keys,m2])
 by_cases h7:g.st=7;rotate_left
 ·rw[if_neg (by omega)];have s7:(g.st==7)=false:=by simp;omega
  have s5:(g.st !=5)=true:=by simp;omega
  have s6:(g.st !=6)=true:=by simp;omega
  simp only[Gx.mrow,Gx.row,Ckx.row,Pkx.row,zJ,zF,zAV]at hF ⊢;refine bdy Tryz.f106 (hrd:=(by simp;omega)) ?_;intro F3 hF1 hF2;have kq:=(hF1 m (by simp)).trans hF;simp only[Tryz.f106,kq,m1,s7,s5,s6,go_sem];repeat refine sd2 ?_
  exact po0 (.tup []) ⟨hm,by simp[Tx.look,BW,m1,kq],trivial⟩ (by simp[UpdAll,keys,m2])
 by_cases hpe:g.peer=zIni
 ·rw[if_neg (by simp[h5,h6,hpe])];have hz1:(g.peer==zIni)=true:=by rw[hpe];rfl
  rw[hz1]at hz;have s7:(g.st==7)=true:=by simp;omega
  have s5:(g.st !=5)=true:=by simp;omega
  have s6:(g.st !=6)=true:=by simp;omega
  simp only[Gx.mrow,Gx.row,Ckx.row,Pkx.row,zJ,zF,zAV]at hF ⊢;refine bdy Tryz.f106 (hrd:=(by simp;omega)) ?_;intro F3 hF1 hF2;have kq:=(hF1 m (by simp)).trans hF;simp only[Tryz.f106,kq,m1,s7,s5,s6,hz,go_sem];repeat refine sd2 ?_
  exact po0 (.tup []) ⟨hm,by simp[Tx.look,BW,m1,kq],trivial⟩ (by simp[UpdAll,keys,m2])
 have hz1:(g.peer==zIni)=false:=by simpa using hpe
 rw[hz1]at hz
 ·rw[if_pos (.inr (.inr ⟨h7,hpe⟩))];have s7:(g.st==7)=true:=by simp;omega
  have s5:(g.st !=5)=true:=by simp;omega
  have s6:(g.st !=6)=true:=by simp;omega
  have ht:=fun(F:SF) (nx:Nat) (hF:F m=_)=>zCl (F:=F) (L:=L+1) (nx:=nx) m (by omega) g now 14 hF
  have hr:=fun(F:SF) (nx:Nat) (hF:F m=_)=>zCH (F:=F) (L:=L+1) (nx:=nx) m (by omega) g now (zAV (zAh g 14)) 7 hF
  obtain ⟨o,hoo⟩:∃o,o=zAV (zAh g 14):=⟨_,rfl⟩;rw[←hoo];simp only[←hoo]at ht hr;simp only[Gx.mrow,Gx.row,Ckx.row,Pkx.row,zAT,zJ,zF]at hF ht hr ⊢;refine bdy Tryz.f106 (hrd:=(by simp;omega)) ?_;intro F3 hF1 hF2;have kq:=(hF1 m (by simp)).trans hF;simp only[Tryz.f106,kq,m1,s7,s5,s6,hz,go_sem];repeat refine sd2 ?_
  refine CallVC.same (ht _ _ (by simp[kq,m1])) ?_;simp only[m1,go_sem];repeat refine sd2 ?_
  refine CallVC.same (hr _ _ (by simp[m1])) ?_;simp only[m1,go_sem];repeat refine sd2 ?_
  exact po0 (.tup []) ⟨hm,by simp[Tx.look,BW,m1],trivial⟩ (by simp[UpdAll,keys,m2])
theorem zNZ{F:SF}{L nx:Nat}(m:Nm)(hm:m.l≤L)(g:Gx)(now:Int)(p:Pkx)(c:Ckx)(hk:c.kd=1)(hl:c.bd.length≤1000000)(hg:g.hd=true)(hn:0≤now∧now≤1099511627776)(hF:F m=some (.rows 123 22 true true [g.mrow now .nilS])):
  Con Tryz.prog 101 [.ptr m 0 0,.agg p.row,.agg c.row] F L nx nx (.tup []) [(m,.rows 123 22 true true [(zFF g now p.tg c).1.mrow now (zAV (zFF g now p.tg c).2)])] [m]:=by
 have m1:∀k,(m=(⟨L+1,k⟩:Nm))=False:=zAI hm;have m2:∀k,((⟨L+1,k⟩:Nm)=m)=False:=zAF hm;rw[zUR]at hg;unfold zFF;have hI:=fun F L nx=>zEq (F:=F) (L:=L) (nx:=nx) c hl
 have hiv:zBL c=(if zBX c then .tup [.agg (zBj c).row,.int .i64 0] else .tup [.agg zIni.row,.int .i64 5]):=by unfold zBL;rw[if_pos (by omega)]
 rw[hiv]at hI;have e5:((5:Int) !=0)=true:=rfl;have e0:((0:Int) !=0)=false:=rfl;cases hok:zBX c
 ·rw[hok,if_neg (by simp)]at hI;rw[if_neg (by simp)];simp only[Gx.mrow,Gx.row,Ckx.row,Ini.row,Pkx.row,zJ,zF,zAV,zIni]at hF hI ⊢;refine bdy Tryz.f101 (hrd:=(by simp;omega)) ?_;intro F3 hF1 hF2;have kq:=(hF1 m (by simp)).trans hF;simp only[Tryz.f101,go_sem];repeat refine sd2 ?_
  refine CallVC.same (hI _ _ _) ?_;simp only[e5,go_sem];repeat refine sd2 ?_
  exact po0 (.tup []) ⟨hm,by simp[Tx.look,BW,m1,kq],trivial⟩ (by simp[UpdAll,keys,m2])
 rw[hok,if_pos rfl]at hI;by_cases ht:p.tg=0;rotate_left
 ·rw[if_neg (by simp[ht])];have t0:(p.tg !=0)=true:=by simp;omega
  simp only[Gx.mrow,Gx.row,Ckx.row,Ini.row,Pkx.row,zJ,zF,zAV]at hF hI ⊢;refine bdy Tryz.f101 (hrd:=(by simp;omega)) ?_;intro F3 hF1 hF2;have kq:=(hF1 m (by simp)).trans hF;simp only[Tryz.f101,go_sem];repeat refine sd2 ?_
  refine CallVC.same (hI _ _ _) ?_;simp only[e0,t0,go_sem];repeat refine sd2 ?_
  exact po0 (.tup []) ⟨hm,by simp[Tx.look,BW,m1,kq],trivial⟩ (by simp[UpdAll,keys,m2])
 by_cases hs:g.st≤3;rotate_left
 ·have d3:decide (g.st>3)=true:=dT (by omega);have d3':decide (3<g.st)=true:=dT (by omega);rw[if_neg (by simp[hs])];have t0:(p.tg !=0)=false:=by simp;omega
  simp only[Gx.mrow,Gx.row,Ckx.row,Ini.row,Pkx.row,zJ,zF,zAV]at hF hI ⊢;refine bdy Tryz.f101 (hrd:=(by simp;omega)) ?_;intro F3 hF1 hF2;have kq:=(hF1 m (by simp)).trans hF;simp only[Tryz.f101,go_sem];repeat refine sd2 ?_
  refine CallVC.same (hI _ _ _) ?_;simp only[kq,m1,e0,t0,d3,go_sem];repeat refine sd2 ?_
  exact po0 (.tup []) ⟨hm,by simp[Tx.look,BW,m1,kq],trivial⟩ (by simp[UpdAll,keys,m2])
 rw[if_pos ⟨rfl,ht,hs⟩];obtain ⟨i1,i2,i3,i4⟩:=zHI hk hok;have d3:decide (g.st>3)=false:=dF (by omega);have d3':decide (3<g.st)=false:=dF (by omega);have t0:(p.tg !=0)=false:=by simp;omega
 obtain ⟨hp1,hp2⟩:=zBz hg.2.2.2.2.2.1;have htg:=zUh hp1;obtain ⟨t,rfl⟩:∃t:Nat,now=t:=⟨now.toNat,by omega⟩;have hM:=fun(F:SF) (nx:Nat) (hF:F m=_)=>zFm (F:=F) (L:=L+1) (nx:=nx) m (by omega) true g t .nilS c.bd t (by omega) (by omega) ⟨by omega,by omega⟩ ⟨by omega,by omega⟩ ⟨by omega,by omega⟩ (by omega) hF
 have hcl:=zIh g c.bd t;obtain ⟨ck,hck⟩:∃ck,ck=ckS g c.bd t:=⟨_,rfl⟩;rw[←hck]at hcl;simp only[←hck]at hM;have hP:=fun F L nx=>zC8 (F:=F) (L:=L) (nx:=nx) {g.own with ck:=ck}
 rw[zNV hp1 (by omega),if_pos rfl]at hP;have hik:zCq ck=2:=by
  unfold zCq;rw[if_neg];intro h;rw[h]at hcl;simp at hcl
 simp only[hik]at hP;rw[←hck];obtain ⟨oc,hoc⟩:∃oc,oc=Ini.oct {g.own with ck:=ck}:=⟨_,rfl⟩;rw[←hoc];simp only[←hoc]at hP;have hS:=fun(F:SF) (nx:Nat) (hF:F m=_)=>zEO (F:=F) (L:=L+1) (nx:=nx) m (by omega) g t (zBj c).tag ⟨2,0,oc⟩ hF
 obtain ⟨o,hoo⟩:∃o,o=zAV (zA9 g (zBj c).tag ⟨2,0,oc⟩):=⟨_,rfl⟩;rw[←hoo];simp only[←hoo]at hS;simp only[Gx.mrow,Gx.row,Ckx.row,Ini.row,Pkx.row,zJ,zF]at hF hI hM hP hS ⊢;refine bdy Tryz.f101 (hrd:=(by simp;omega)) ?_;intro F3 hF1 hF2;have kq:=(hF1 m (by simp)).trans hF;simp only[Tryz.f101,go_sem];repeat refine sd2 ?_
 refine CallVC.same (hI _ _ _) ?_;simp only[kq,m1,e0,t0,d3,go_sem];repeat refine sd2 ?_
 refine CallVC.same (hM _ _ (by simp[kq,m1])) ?_;simp only[go_sem];repeat refine sd2 ?_
 refine ⟨zEG m2,CallVC.same (hP _ _ _) ?_⟩;simp only[go_sem];repeat refine sd2 ?_
 refine CallVC.same (hS _ _ (by simp[kq,m1])) ?_;simp only[m1,go_sem];repeat refine sd2 ?_
 exact po0 (.tup []) ⟨hm,by simp[Tx.look,BW,m1],trivial⟩ (by simp[UpdAll,keys,m2])
theorem zNa{F:SF}{L nx:Nat}(m:Nm)(hm:m.l≤L)(g:Gx)(now:Int)(p:Pkx)(c:Ckx)(hk:c.kd=2)(hl:c.bd.length≤1000000)(hn:0≤now∧now≤1099511627776)(ho:g.own.ok=true∧g.own.ck=[])(hF:F m=some (.rows 123 22 true true [g.mrow now .nilS])):
  Con Tryz.prog 102 [.ptr m 0 0,.agg p.row,.agg c.row] F L nx nx (.tup []) [(m,.rows 123 22 true true [(zDh g now c).1.mrow now (zAV (zDh g now c).2)])] [m]:=by
 have m1:∀k,(m=(⟨L+1,k⟩:Nm))=False:=zAI hm;have m2:∀k,((⟨L+1,k⟩:Nm)=m)=False:=zAF hm;unfold zDh;have hI:=fun F L nx=>zEq (F:=F) (L:=L) (nx:=nx) c hl
 have hiv:zBL c=(if zBX c then .tup [.agg (zBj c).row,.int .i64 0] else .tup [.agg zIni.row,.int .i64 5]):=by unfold zBL;rw[if_pos (by omega)]
 rw[hiv]at hI;have e5:((5:Int) !=0)=true:=rfl;have e0:((0:Int) !=0)=false:=rfl;cases hok:zBX c
 ·rw[hok,if_neg (by simp)]at hI;rw[if_neg (by simp)];simp only[Gx.mrow,Gx.row,Ckx.row,Ini.row,Pkx.row,zJ,zF,zAV,zIni]at hF hI ⊢;refine bdy Tryz.f102 (hrd:=(by simp;omega)) ?_;intro F3 hF1 hF2;have kq:=(hF1 m (by simp)).trans hF;simp only[Tryz.f102,go_sem];repeat refine sd2 ?_
  refine CallVC.same (hI _ _ _) ?_;simp only[e5,go_sem];repeat refine sd2 ?_
  exact po0 (.tup []) ⟨hm,by simp[Tx.look,BW,m1,kq],trivial⟩ (by simp[UpdAll,keys,m2])
 rw[hok,if_pos rfl]at hI;by_cases hs:g.st=2;rotate_left
 ·rw[if_neg (by simp[hs])];have s2:(g.st !=2)=true:=by simp;omega
  simp only[Gx.mrow,Gx.row,Ckx.row,Ini.row,Pkx.row,zJ,zF,zAV]at hF hI ⊢;refine bdy Tryz.f102 (hrd:=(by simp;omega)) ?_;intro F3 hF1 hF2;have kq:=(hF1 m (by simp)).trans hF;simp only[Tryz.f102,go_sem];repeat refine sd2 ?_
  refine CallVC.same (hI _ _ _) ?_;simp only[kq,m1,e0,s2,go_sem];repeat refine sd2 ?_
  exact po0 (.tup []) ⟨hm,by simp[Tx.look,BW,m1,kq],trivial⟩ (by simp[UpdAll,keys,m2])
 rw[if_pos ⟨rfl,hs⟩];have s2:(g.st !=2)=false:=by simp;omega
 have hb:=fun(F:SF) (nx:Nat) (hF:F m=_)=>zD3 (F:=F) (L:=L+1) (nx:=nx) m (by omega) g now .nilS 3 hn hF
 obtain ⟨h,hh⟩:∃h:Gx,h={zAG g 3 now with ck:=(zBj c).ck,peer:={zBj c with ck:=[]}}:=⟨_,rfl⟩;have ha:=fun(F:SF) (nx:Nat) (hF:F m=_)=>zCe (F:=F) (L:=L+1) (nx:=nx) m (by omega) h now (by rw[hh];exact ho) hF
 obtain ⟨o,hoo⟩:∃o,o=zAV (zAj h):=⟨_,rfl⟩;rw[←hh];simp only[←hoo];simp only[←hoo]at ha;subst hh;simp only[Gx.mrow,Gx.row,Ckx.row,Ini.row,Pkx.row,zAG,zJ,zF]at hF hI hb ha ⊢;refine bdy Tryz.f102 (hrd:=(by simp;omega)) ?_;intro F3 hF1 hF2;have kq:=(hF1 m (by simp)).trans hF;simp only[Tryz.f102,go_sem];repeat refine sd2 ?_
 refine CallVC.same (hI _ _ _) ?_;simp only[kq,m1,e0,s2,go_sem];repeat refine sd2 ?_
 refine CallVC.same (hb _ _ (by simp[kq,m1])) ?_;simp only[kq,m1,m2,go_sem];repeat refine sd2 ?_
 refine CallVC.same (ha _ _ (by simp[m1])) ?_;simp only[m1,go_sem];repeat refine sd2 ?_
 exact po0 (.tup []) ⟨hm,by simp[Tx.look,BW,m1],trivial⟩ (by simp[UpdAll,keys,m2])
end Go.Proofs.YtifhjhbfhdcahaaGreat
end
section
namespace Go.Tx
theorem Sub.unown{L:Nat}{F0:SF}{t:List (Option PV)}{H:List (Nm×SBlk)}{nx:Nat}(ns:List Nm):Sub L F0 ⟨t,H,nx⟩ ⟨t,zAl H (Tx.unown (look F0 H) ns),nx⟩:=by
 intro B E0 w0 E a w hd0 hR;have hle:=zED (look F0 H) ns;have hS:=zUS hR.step.rel hle;refine ⟨E,by rw[zAP];exact hR.step.trans hS,⟨by simpa using hR.tmps.size,fun i x hx=>?_⟩,by rw[zAP];exact hR.marks.mono hS.ext,hR.news⟩;obtain ⟨y,a1,a2⟩:=hR.tmps.val i x hx;exact ⟨y,a1,by rw[zAP];exact VR.mono hS.ext _ _ a2⟩
theorem zVR{E:Env}{F:SF}{w:World}(h:HRel E F w){q n:Nm}{k:Nat}{i:BI}(hq:F q=none)(hi:E n=some i)(hz:i.z=false)(hk:i.n=k):StepR E F w E (F.set q (.cap n k)) w:=by
 have hown:∀m b,(F.set q (.cap n k)) m=some b→(b.own=true∨b.live=true)→m≠q∧F m=some b:=by
  intro m b hm hb;unfold SF.set at hm;split at hm
  ·injection hm with hm;subst hm;rcases hb with hb|hb<;>cases hb
  ·rename_i hne;exact ⟨hne,hm⟩
 have hN:NewAt E F w E (F.set q (.cap n k)) w:=⟨Env.le.refl _,rfl,rfl,rfl,zH _,fun _ _ _=>rfl,fun m b i hm ho hi hz=>.inr ⟨m,b,i,(hown m b hm (.inl ho)).2,ho,hi,hz,rfl⟩⟩;refine hN.step ⟨fun m b hm=>?_,fun m1 m2 b c i j h1 h2 h12 ho hl hi hj hz1 hz2=>?_⟩
 ·unfold SF.set at hm;split at hm
  ·injection hm with hm;subst hm;exact ⟨i,hi,hz,hk⟩
  ·exact (h.blk m b hm).mono hN.ext fun _ _ _=>rfl
 ·exact h.sep m1 m2 b c i j (hown _ _ h1 (.inl ho)).2 (hown _ _ h2 (.inr hl)).2 h12 ho hl hi hj hz1 hz2
theorem VT.cap{C:Cx}{F0:SF}{c:Code}{t:List (Option PV)}{H:List (Nm×SBlk)}{nx:Nat}{Q:Exit→St→Prop}(q n:Nm){e:TypeId}{wd:Nat}{o p:Bool}{r:List PV}{rs:List (List PV)}(hn:look F0 H n=some (.rows e wd o p (r::rs)))(hq:look F0 H q=none)
  (h:∀k,rs.length+1≤k→VT C F0 c ⟨t,zAl H [(q,.cap n k)],nx⟩ Q):VT C F0 c ⟨t,H,nx⟩ Q:=by
 intro E0 w0 hd hy hR0 a w E hR;obtain ⟨i,hi,hor⟩:=hR.step.rel.blk n _ hn;rcases hor with ⟨_,h0,_⟩|⟨hz,hRr⟩;·cases h0
 have hle:=hRr.le;have hS:=zVR (k:=i.n) hR.step.rel hq hi hz rfl;have hlk:look F0 (zAl H [(q,SBlk.cap n i.n)])=(look F0 H).set q (.cap n i.n):=by rw[zAP];rfl
 refine h i.n (by simpa using hle) E0 w0 hd hy hR0 a w E ⟨by rw[hlk];exact hR.step.trans hS,⟨by simpa using hR.tmps.size,fun j v hv=>?_⟩,by rw[hlk];exact hR.marks.mono hS.ext,hR.news⟩;obtain ⟨v',a1,a2⟩:=hR.tmps.val j v hv;exact ⟨v',a1,by rw[hlk];exact VR.mono hS.ext _ _ a2⟩
end Go.Tx
end
section
namespace Go.Proofs.YtifhjhbfhdcahaaGreat
open Go.Tx
set_option maxRecDepth 100000
set_option maxHeartbeats 16000000
theorem zK3{F:SF}{L nx:Nat}(q1 q2:Nm)(h1:q1.l≤L)(h2:q2.l≤L)(o:Bool)(kd fl:Int)(b:List UInt8)(hb:b.length=62)(i:Nat)(hi:i≤1)(hG1:F q1=some (.rows 66 3 false true [[.int .i64 6,.int .i64 16,.int .i64 40]]))(hG2:F q2=some (.rows 73 3 o true [[.int .i64 kd,.int .i64 fl,.str b]])):
  Con Tryz.prog 131 [.int .i64 i,.ptr q1 0 0,.ptr q2 0 0] F L nx nx (.str (if i=0 then b.take 6 else (b.drop 6).take 16)) [] [q1,q2]:=by
 have m1:∀k,(q1=(⟨L+1,k⟩:Nm))=False:=zAI h1;have m2:∀k,((⟨L+1,k⟩:Nm)=q1)=False:=zAF h1;have m3:∀k,(q2=(⟨L+1,k⟩:Nm))=False:=zAI h2;have m4:∀k,((⟨L+1,k⟩:Nm)=q2)=False:=zAF h2;refine bdy Tryz.f131 (hrd:=(by simp;omega)) ?_;intro F3 hF1 hF2;have k1:F3 q1=some (.rows 66 3 false true [[.int .i64 6,.int .i64 16,.int .i64 40]]):=(hF1 q1 (by simp)).trans hG1;have k2:=(hF1 q2 (by simp)).trans hG2;simp only[Tryz.f131,k1,go_sem];repeat refine sd2 ?_
 have hs:(if i=0 then 0 else 6:Nat)+(if i=0 then 6 else 16)≤62:=by split<;>omega
 refine loopK.intro _ _ (I:=fun j:Nat=>⟨[some (.int .i64 i),some (.ptr q1 0 0),some (.ptr q2 0 0),none,none,some (.int .i64 (if j=0 then 0 else 6)),none,none,none,some (.fs 1 (([6].map eI).take i)),some (.int .i64 i),some (.int .i64 j)]++oz 16,[],10000*(j+1)⟩)
  (pre:=fun j=>j≤i) (μ:=fun j=>i-j) 0 (by omega) ?_ ?_
 ·have e1:List.take i [[PV.int .i64 6],[.int .i64 16],[.int .i64 40]]=([6].map eI).take i:=by
   rcases (show i=0∨i=1 by omega) with rfl|rfl<;>rfl
  have e2:(([6].map eI).take i).length=i:=by rw[wI];simp;omega
  rw[e1,e2];refine Sub.of (hfz hF2) (by simp only[go_sem,zAf,and_self,zW];try trivial) ?_ (by simp[zAs]) (by simp);simp[zAi]
 intro j hj;by_cases hlt:j<i
 ·obtain rfl:j=0:=by omega
  obtain rfl:i=1:=by omega
  have g1:decide ((0:Int)<((1:Nat):Int))=true:=dT (by omega);have g1':decide ((0:Int)<1)=true:=dT (by omega);have g2:(([6].map eI).take 1)=[[.int .i64 6]]:=rfl;simp only[g1,zW,go_sem];repeat refine sd2 ?_
  refine ⟨1,by omega,by omega,?_⟩;refine Sub.of (hfz hF2) (by simp only[go_sem,zAf];try trivial) ?_ (by simp[zAs,keys,zAl]) (by simp only[];omega);simp[zAi]
 ·obtain rfl:j=i:=by omega
  have g1:decide ((0:Int)<0)=false:=dF (by omega);have g1':decide ((1:Int)<1)=false:=dF (by omega);rcases (show j=0∨j=1 by omega) with rfl|rfl
  ·simp only[k1,k2,g1,zW,go_sem];repeat refine sd2 ?_
   have hbl:b.length=62:=hb;refine ⟨zAA (fun _=>0) (by simp only[zA0,List.map];kernel_rfl),?_⟩;exact PostF.same (p:=True) (.inr rfl) (by simp only[go_sem];try rfl) trivial (by simp only[Tx.nf]) (by simp[UpdAll])
  ·simp only[k1,k2,g1',vK,go_sem];repeat refine sd2 ?_
   have hbl:b.length=62:=hb;refine ⟨zAA (fun _=>0) (by simp only[zA0,List.map];kernel_rfl),?_⟩;exact PostF.same (p:=True) (.inr rfl) (by simp only[go_sem];try rfl) trivial (by simp only[Tx.nf]) (by simp[UpdAll])
end Go.Proofs.YtifhjhbfhdcahaaGreat
end
