/- Lemmas for the walk: GK125. -/
import Derived.Test.YtifhjhbfhdcahaaGreatP28
import Derived.Test.YtifhjhbfhdcahaaGreatP29
import Derived.Test.YtifhjhbfhdcahaaGreatP20
set_option linter.all false
section
namespace Go.Proofs.YtifhjhbfhdcahaaGreat
open Go.Tx
set_option maxRecDepth 100000
set_option maxHeartbeats 16000000
theorem zL2{F:SF}{L nx:Nat}:Con Tryz.prog 10 [] F L nx nx (.bool true) [] []:=by
 obtain ⟨a1,a2,a3,a4,p1,p2,p3,p5,pl,q2,q3,b1,a5,bl,b5,a6,c2,c3,c5,cl,R⟩:=zS1;obtain ⟨SA,hSA⟩:∃S:List UInt8,S=List.replicate 32 97:=⟨_,rfl⟩;obtain ⟨SB,hSB⟩:∃S:List UInt8,S=List.replicate 32 98:=⟨_,rfl⟩;have rA:=zPl 97 32 (by omega);have rB:=zPl 98 32 (by omega);rw[←hSA]at rA;rw[←hSB]at rB;have nA:=fun F L nx=>zKM (F:=F) (L:=L) (nx:=nx) 1 2 SA exA
 have nB9:=fun F L nx=>zKM (F:=F) (L:=L) (nx:=nx) 2 1 SB exB
 have oA:(zIr 1 2 SA exA).ok=true:=by rw[hSA];kernel_rfl
 have oB:(zIr 2 1 SB exB).ok=true:=by rw[hSB];kernel_rfl
 simp only[oA,if_true]at nA;simp only[oB,if_true]at nB9;obtain ⟨A,hA⟩:∃A,A=zIr 1 2 SA exA:=⟨_,rfl⟩;obtain ⟨B,hB⟩:∃B,B=zIr 2 1 SB exB:=⟨_,rfl⟩;have eA:exG false=A:=by rw[hA,hSA];rfl
 have eB:exG true=B:=by rw[hB,hSB];rfl
 rw[←hA]at nA;rw[←hB]at nB9;have s1:=R.s1;rw[eA]at s1;have s2:=R.s2;rw[eB]at s2;simp only[Gx.row,exA,exB,Ini.row]at nA nB9;have P1:=((zAo s1).pk _ (List.mem_singleton.2 rfl)).1;have n0:((0:Int) !=0)=false:=rfl;refine zUU (zAg (L+1)) rfl rfl (fn:=Tryz.f10) (c:=Tryz.f10.body.getD .skip) (by kernel_rfl) (by rfl) (by kernel_rfl) rfl (by simp) ?_;intro F3 hF1 hF2
 refine vcu ⟨[none,none,none,none,none,none,none,none,none,none,none,none,none,none,none,none,none,none,none,none,none,none,none,none,none,none,none,none,none,none,none,none,none,none,none,none,none,none,none,none,none,none,none,none,none,none,none,none,none,none,none,none,none,none,none,none,none,none,none,none,none,none,none,none,none,none,none,none,none,none,none,none,none,none,none,none,none,none,none,none,none,none,none,none,none,none,none,none,none,none,none,none,none,none,none,none,none,none,none,none,none,none,none,none,none,none,none,none,none,none,none,none,none,none,none,none,none,none,none,none,none,none,none,none,none,none,none,none,none,none,none,none,none,none,none,none,none,none,none,none,none,none,none,none,none,none,none,none,none,none,none,none,none,none,none,none,none,none,none,none,none,none,none,none,none,none,none,none,none,none,none,none,none,none,none,none,none,none,none,none,none,none,none,none,none,none,none,none,none,none,none,none,none,none,none,none,none,none,none,none,none,none,none,none,none,none,none,none,none,none,none,none,none,none,none,none,none,none,none,none,none,none,none,none,none,none,none,none,none,none,none,none,none,none,none,none,none,none,none,none,none,none,none,none,none,none,none,none,none,none,none,none,none,none,none,none,none,none,none,none,none,none,none,none,none,none,none,none,none,none,none,none,none,none,none,none,none,none,none,none,none,none,none,none,none,none,none,none,none,none,none,none,none,none],[],1000⟩ ?_ ?_
 ·simp only[Tryz.f10,go_sem];repeat refine sd2 ?_
  refine ⟨(),(so0 hF2)⟩
 refine vcu ⟨[none,some (.ptr ⟨L+1,1128⟩ 0 0),some (.int .i64 0)]++oz 291,[(⟨L+1,1128⟩,.rows 28 20 true true [(gR A [])])],2000⟩ ?_ ?_
 ·simp only[Tryz.f10,go_sem];repeat refine sd2 ?_
  refine CallVC.same (rA _ _ _) ?_;simp only[go_sem];repeat refine sd2 ?_
  refine CallVC.same (nA _ _ _) ?_;simp only[go_sem];repeat refine sd2 ?_
  refine ⟨(),(so0 hF2)⟩
 refine vcu ⟨[none,some (.ptr ⟨L+1,1128⟩ 0 0),some (.int .i64 0),some (.ptr ⟨L+1,2128⟩ 0 0),some (.int .i64 0)]++oz 289,[(⟨L+1,1128⟩,.rows 28 20 true true [(gR A [])]),(⟨L+1,2128⟩,.rows 28 20 true true [(gR B [])])],3000⟩ ?_ ?_
 ·simp only[Tryz.f10,go_sem];repeat refine sd2 ?_
  refine CallVC.same (rB _ _ _) ?_;simp only[go_sem];repeat refine sd2 ?_
  refine CallVC.same (nB9 _ _ _) ?_;simp only[go_sem];repeat refine sd2 ?_
  refine ⟨(),(so0 hF2)⟩
 refine vcu ⟨[none,none,some (.int .i64 0),none,some (.int .i64 0),some (.ptr ⟨L+1,3128⟩ 0 0)]++oz 288,[(⟨L+1,3128⟩,.rows 33 43 true true [(gR A (gR B [.nilS,.nilS,.int .i64 0]))])],4000⟩ ?_ ?_
 ·simp only[Tryz.f10,go_sem];repeat refine sd2 ?_
  refine ⟨(),(so0 hF2)⟩
 have x1:(a1.st !=2)=false:=by rw[R.a1s];rfl
 have x2:(a1.due !=400)=false:=by rw[R.a1d];rfl
 have x3:(((1:Nat):Int) !=1)=false:=rfl;have x4:(p1.tg !=0)=false:=by rw[R.p1t];rfl
 refine vcu ⟨[none,none,none,none,none,some (.ptr ⟨L+1,3128⟩ 0 0)]++oz 288,[(⟨L+1,3128⟩,.rows 33 43 true false [(gR a1 (gR B [.nilS,.sl ⟨L+1,4257⟩ 0 1,.int .i64 0]))]),(⟨L+1,4257⟩,.rows 38 4 true true [(pR p1)])],6000⟩ ?_ ?_
 ·simp only[Tryz.f10,n0,go_sem];repeat refine sd2 ?_
  refine zUW (args2:=[.ptr ⟨L+1,3128⟩ 0 0,.int .i64 0,.agg (.int .i64 1::pk0.row)]) (by simp[pk0,Pkx.row,WkL,Wk]) (by simp[zAt,wkN,pk0,Pkx.row]) (zPL (pu:=true) (L:=L+1) ⟨L+1,3128⟩ (.inr ⟨rfl,by simp⟩) false ⟨A,B,[],[],0⟩ 1 pk0 (by simp[pk0]) (by simp[pk0]) .nilS zCI a1 [p1] s1 rfl (by simp[Tk.rw,Tk.row])) ?_;simp only[Tk.ev,Tk.rw,Tk.w,zN,zT,Tk.row,zF,zL,Pkx.row,x1,x2,x3,x4,go_sem];repeat refine sd2 ?_
  refine ⟨(),(so0 hF2)⟩
 refine vcu ⟨[none,none,none,none,none,some (.ptr ⟨L+1,3128⟩ 0 0),some (.ptr ⟨L+1,6032⟩ 0 0)]++oz 287,[(⟨L+1,3128⟩,.rows 33 43 true false [(gR a1 (gR B [.nilS,.sl ⟨L+1,4257⟩ 0 1,.int .i64 0]))]),(⟨L+1,6032⟩,.rows 33 43 true false [(gR a1 (gR B [.nilS,.sl ⟨L+1,4257⟩ 0 1,.int .i64 0]))]),(⟨L+1,4257⟩,.rows 38 4 true true [(pR p1)])],7000⟩ ?_ ?_
 ·simp only[Tryz.f10,go_sem];repeat refine sd2 ?_
  refine ⟨(),(so0 hF2)⟩
 refine VT.cap ⟨L+1,4274⟩ ⟨L+1,4257⟩ (e:=38) (wd:=4) (o:=true) (p:=true) (r:=(pR p1)) (rs:=[]) (by simp[Tx.look]) (by simp[Tx.look,hF2]) ?_;intro c hc;simp only[zAl,setH,go_sem];refine VT.cut (zAg (L+1)) (by kernel_rfl) (fun y:PV×List Pkx=>⟨[none,none,none,none,none,some (.ptr ⟨L+1,3128⟩ 0 0),some (.ptr ⟨L+1,6032⟩ 0 0)]++oz 287,[(⟨L+1,3128⟩,.rows 33 43 true false [(gR a1 (gR B [.nilS,.sl ⟨L+1,4257⟩ 0 1,.int .i64 0]))]),(⟨L+1,6032⟩,.rows 33 43 true false [(gR a4 (gR B [.nilS,y.1,.int .i64 1200]))]),(⟨L+1,4257⟩,.rows 38 4 true true (([p1]++y.2).map Pkx.row))],100000⟩) (fun _=>True) ?_ ?_
 ·simp only[Tryz.f10,go_sem];repeat refine sd2 ?_
  have hcc:c=1∨c=2∨3≤c:=by simp at hc;omega
  rcases hcc with hc1|hc2|hc3
  ·refine loopK.intro _ _ (I:=fun j:Nat=>match j with|0=>⟨[none,none,none,none,none,some (.ptr ⟨L+1,3128⟩ 0 0),some (.ptr ⟨L+1,6032⟩ 0 0)]++oz 70++[some (.agg [.int .i64 399,.int .i64 1,.int .i64 400,.int .i64 400,.int .i64 2,.int .i64 1200,.int .i64 1200,.int .i64 3,.int .i64 2800]),some (.int .i64 0)]++oz 215,[(⟨L+1,3128⟩,.rows 33 43 true false [(gR a1 (gR B [.nilS,.sl ⟨L+1,4257⟩ 0 1,.int .i64 0]))]),(⟨L+1,6032⟩,.rows 33 43 true false [(gR a1 (gR B [.nilS,.sl ⟨L+1,4257⟩ 0 1,.int .i64 0]))]),(⟨L+1,4257⟩,.rows 38 4 true true [(pR p1)]),(⟨L+1,4274⟩,.cap ⟨L+1,4257⟩ c)],10000⟩|1=>⟨[none,none,none,none,none,some (.ptr ⟨L+1,3128⟩ 0 0),some (.ptr ⟨L+1,6032⟩ 0 0)]++oz 70++[some (.agg [.int .i64 399,.int .i64 1,.int .i64 400,.int .i64 400,.int .i64 2,.int .i64 1200,.int .i64 1200,.int .i64 3,.int .i64 2800]),some (.int .i64 1)]++oz 215,[(⟨L+1,3128⟩,.rows 33 43 true false [(gR a1 (gR B [.nilS,.sl ⟨L+1,4257⟩ 0 1,.int .i64 0]))]),(⟨L+1,6032⟩,.rows 33 43 true false [(gR a2 (gR B [.nilS,.sl ⟨L+1,4257⟩ 0 1,.int .i64 399]))]),(⟨L+1,4257⟩,.rows 38 4 true true [(pR p1)]),(⟨L+1,4274⟩,.cap ⟨L+1,4257⟩ c)],20000⟩|2=>⟨[none,none,none,none,none,some (.ptr ⟨L+1,3128⟩ 0 0),some (.ptr ⟨L+1,6032⟩ 0 0)]++oz 70++[some (.agg [.int .i64 399,.int .i64 1,.int .i64 400,.int .i64 400,.int .i64 2,.int .i64 1200,.int .i64 1200,.int .i64 3,.int .i64 2800]),some (.int .i64 2)]++oz 215,[(⟨L+1,3128⟩,.rows 33 43 true false [(gR a1 (gR B [.nilS,.sl ⟨L+1,4257⟩ 0 1,.int .i64 0]))]),(⟨L+1,6032⟩,.rows 33 43 true false [(gR a3 (gR B [.nilS,.sl ⟨L+1,20288⟩ 0 2,.int .i64 400]))]),(⟨L+1,4257⟩,.rows 38 4 true true [(pR p1)]),(⟨L+1,20288⟩,.rows 38 4 true true [(pR p1),(pR q2)]),(⟨L+1,4274⟩,.cap ⟨L+1,4257⟩ c)],30000⟩|_=>⟨[none,none,none,none,none,some (.ptr ⟨L+1,3128⟩ 0 0),some (.ptr ⟨L+1,6032⟩ 0 0)]++oz 70++[some (.agg [.int .i64 399,.int .i64 1,.int .i64 400,.int .i64 400,.int .i64 2,.int .i64 1200,.int .i64 1200,.int .i64 3,.int .i64 2800]),some (.int .i64 3)]++oz 215,[(⟨L+1,3128⟩,.rows 33 43 true false [(gR a1 (gR B [.nilS,.sl ⟨L+1,4257⟩ 0 1,.int .i64 0]))]),(⟨L+1,6032⟩,.rows 33 43 true false [(gR a4 (gR B [.nilS,.sl ⟨L+1,30288⟩ 0 3,.int .i64 1200]))]),(⟨L+1,4257⟩,.rows 38 4 true true [(pR p1)]),(⟨L+1,30288⟩,.rows 38 4 true true [(pR p1),(pR q2),(pR q3)]),(⟨L+1,4274⟩,.cap ⟨L+1,4257⟩ c)],40000⟩) (pre:=fun j=>j≤3) (μ:=fun j=>3-j) 0 (by omega) ((so0 hF2)) ?_
   intro j hj;have hj4:j=0∨j=1∨j=2∨j=3:=by omega
   rcases hj4 with rfl|rfl|rfl|rfl
   ·have g1:decide ((0:Int)<3)=true:=rfl;have y1:((((1:Nat)):Int) !=1)=false:=rfl;have y2:(a2.due !=400)=false:=by rw[R.a2d];rfl
    simp only[g1,go_sem];repeat refine sd2 ?_
    refine zUW (args2:=[.ptr ⟨L+1,6032⟩ 0 0,.int .i64 0,.agg (.int .i64 4::pk0.row)]) (by simp[pk0,Pkx.row,WkL,Wk]) (by simp[zAt,wkN,pk0,Pkx.row]) (zHK (L:=L+1) ⟨L+1,6032⟩ (.inr ⟨rfl,by simp⟩) ⟨a1,B,[],[p1],399⟩ 4 pk0 (by simp[pk0]) (by simp[pk0]) .nilS zCI ⟨L+1,4257⟩ (by simp) a2 R.f1 (by simp) (by simp) (by simp[Pkx.row]) (by simp[Tk.row])) ?_;simp only[zN,zT,Tk.row,zF,Pkx.row,y1,y2,zP,go_sem];repeat refine sd2 ?_
    refine ⟨1,by omega,by omega,?_⟩;exact (so0 hF2)
   ·have g1:decide ((1:Int)<3)=true:=rfl;have y1:((((2:Nat)):Int) !=2)=false:=rfl;have y2:(a3.due !=1200)=false:=by rw[R.a3d];rfl
    simp only[g1,go_sem];repeat refine sd2 ?_
    refine zUW (args2:=[.ptr ⟨L+1,6032⟩ 0 0,.int .i64 0,.agg (.int .i64 4::pk0.row)]) (by simp[pk0,Pkx.row,WkL,Wk]) (by simp[zAt,wkN,pk0,Pkx.row]) (zJZ (L:=L+1) ⟨L+1,6032⟩ (.inr ⟨rfl,by simp⟩) ⟨a2,B,[],[p1],400⟩ 4 pk0 (by simp[pk0]) (by simp[pk0]) .nilS zCI ⟨L+1,4257⟩ (by simp) a3 q2 R.f2 (by simp) (by simp) (by simp[Pkx.row]) (by simp[zA8]) c (by simp[zA8]) (by simp;omega) (by simp[Tk.row])) ?_;simp only[zN,zT,Tk.row,zJ,zF,zL,Pkx.row,y1,y2,zA8,zP,go_sem];repeat refine sd2 ?_
    refine ⟨2,by omega,by omega,?_⟩;exact (so0 hF2)
   ·have g1:decide ((2:Int)<3)=true:=rfl;have y1:((((3:Nat)):Int) !=3)=false:=rfl;have y2:(a4.due !=2800)=false:=by rw[R.a4d];rfl
    simp only[g1,go_sem];repeat refine sd2 ?_
    refine zUW (args2:=[.ptr ⟨L+1,6032⟩ 0 0,.int .i64 0,.agg (.int .i64 4::pk0.row)]) (by simp[pk0,Pkx.row,WkL,Wk]) (by simp[zAt,wkN,pk0,Pkx.row]) (zIn (L:=L+1) ⟨L+1,6032⟩ (.inr ⟨rfl,by simp⟩) false ⟨a3,B,[],[p1,q2],1200⟩ 4 pk0 (by simp[pk0]) (by simp[pk0]) .nilS zCI ⟨L+1,20288⟩ (by simp) a4 [q3] R.f3 (by simp) (by simp[Tk.w]) (by simp[Tk.w,Pkx.row]) (by simp[Tk.rw,Tk.w,Tk.row])) ?_;simp only[Tk.ev,Tk.rw,Tk.w,zN,zT,Tk.row,zJ,zF,zL,Pkx.row,y1,y2,vC,zP,go_sem];repeat refine sd2 ?_
    refine ⟨3,by omega,by omega,?_⟩;exact (so0 hF2)
   ·have g1:decide ((3:Int)<3)=false:=rfl;simp only[g1,go_sem];repeat refine sd2 ?_
    refine ⟨(.sl ⟨L+1,30288⟩ 0 3,[]),(so0 hF2 (h2:=by simp[zAi,Tx.look,Pkx.row]))⟩
  ·refine loopK.intro _ _ (I:=fun j:Nat=>match j with|0=>⟨[none,none,none,none,none,some (.ptr ⟨L+1,3128⟩ 0 0),some (.ptr ⟨L+1,6032⟩ 0 0)]++oz 70++[some (.agg [.int .i64 399,.int .i64 1,.int .i64 400,.int .i64 400,.int .i64 2,.int .i64 1200,.int .i64 1200,.int .i64 3,.int .i64 2800]),some (.int .i64 0)]++oz 215,[(⟨L+1,3128⟩,.rows 33 43 true false [(gR a1 (gR B [.nilS,.sl ⟨L+1,4257⟩ 0 1,.int .i64 0]))]),(⟨L+1,6032⟩,.rows 33 43 true false [(gR a1 (gR B [.nilS,.sl ⟨L+1,4257⟩ 0 1,.int .i64 0]))]),(⟨L+1,4257⟩,.rows 38 4 true true [(pR p1)]),(⟨L+1,4274⟩,.cap ⟨L+1,4257⟩ c)],10000⟩|1=>⟨[none,none,none,none,none,some (.ptr ⟨L+1,3128⟩ 0 0),some (.ptr ⟨L+1,6032⟩ 0 0)]++oz 70++[some (.agg [.int .i64 399,.int .i64 1,.int .i64 400,.int .i64 400,.int .i64 2,.int .i64 1200,.int .i64 1200,.int .i64 3,.int .i64 2800]),some (.int .i64 1)]++oz 215,[(⟨L+1,3128⟩,.rows 33 43 true false [(gR a1 (gR B [.nilS,.sl ⟨L+1,4257⟩ 0 1,.int .i64 0]))]),(⟨L+1,6032⟩,.rows 33 43 true false [(gR a2 (gR B [.nilS,.sl ⟨L+1,4257⟩ 0 1,.int .i64 399]))]),(⟨L+1,4257⟩,.rows 38 4 true true [(pR p1)]),(⟨L+1,4274⟩,.cap ⟨L+1,4257⟩ c)],20000⟩|2=>⟨[none,none,none,none,none,some (.ptr ⟨L+1,3128⟩ 0 0),some (.ptr ⟨L+1,6032⟩ 0 0)]++oz 70++[some (.agg [.int .i64 399,.int .i64 1,.int .i64 400,.int .i64 400,.int .i64 2,.int .i64 1200,.int .i64 1200,.int .i64 3,.int .i64 2800]),some (.int .i64 2)]++oz 215,[(⟨L+1,3128⟩,.rows 33 43 true false [(gR a1 (gR B [.nilS,.sl ⟨L+1,4257⟩ 0 1,.int .i64 0]))]),(⟨L+1,6032⟩,.rows 33 43 true false [(gR a3 (gR B [.nilS,.sl ⟨L+1,4257⟩ 0 2,.int .i64 400]))]),(⟨L+1,4257⟩,.rows 38 4 true true [(pR p1),(pR q2)]),(⟨L+1,4274⟩,.cap ⟨L+1,4257⟩ c)],30000⟩|_=>⟨[none,none,none,none,none,some (.ptr ⟨L+1,3128⟩ 0 0),some (.ptr ⟨L+1,6032⟩ 0 0)]++oz 70++[some (.agg [.int .i64 399,.int .i64 1,.int .i64 400,.int .i64 400,.int .i64 2,.int .i64 1200,.int .i64 1200,.int .i64 3,.int .i64 2800]),some (.int .i64 3)]++oz 215,[(⟨L+1,3128⟩,.rows 33 43 true false [(gR a1 (gR B [.nilS,.sl ⟨L+1,4257⟩ 0 1,.int .i64 0]))]),(⟨L+1,6032⟩,.rows 33 43 true false [(gR a4 (gR B [.nilS,.sl ⟨L+1,30288⟩ 0 3,.int .i64 1200]))]),(⟨L+1,4257⟩,.rows 38 4 true true [(pR p1),(pR q2)]),(⟨L+1,30288⟩,.rows 38 4 true true [(pR p1),(pR q2),(pR q3)]),(⟨L+1,4274⟩,.cap ⟨L+1,4257⟩ c)],40000⟩) (pre:=fun j=>j≤3) (μ:=fun j=>3-j) 0 (by omega) ((so0 hF2)) ?_
   intro j hj;have hj4:j=0∨j=1∨j=2∨j=3:=by omega
   rcases hj4 with rfl|rfl|rfl|rfl
   ·have g1:decide ((0:Int)<3)=true:=rfl;have y1:((((1:Nat)):Int) !=1)=false:=rfl;have y2:(a2.due !=400)=false:=by rw[R.a2d];rfl
    simp only[g1,go_sem];repeat refine sd2 ?_
    refine zUW (args2:=[.ptr ⟨L+1,6032⟩ 0 0,.int .i64 0,.agg (.int .i64 4::pk0.row)]) (by simp[pk0,Pkx.row,WkL,Wk]) (by simp[zAt,wkN,pk0,Pkx.row]) (zHK (L:=L+1) ⟨L+1,6032⟩ (.inr ⟨rfl,by simp⟩) ⟨a1,B,[],[p1],399⟩ 4 pk0 (by simp[pk0]) (by simp[pk0]) .nilS zCI ⟨L+1,4257⟩ (by simp) a2 R.f1 (by simp) (by simp) (by simp[Pkx.row]) (by simp[Tk.row])) ?_;simp only[zN,zT,Tk.row,zF,Pkx.row,y1,y2,zP,go_sem];repeat refine sd2 ?_
    refine ⟨1,by omega,by omega,?_⟩;exact (so0 hF2)
   ·have g1:decide ((1:Int)<3)=true:=rfl;have y1:((((2:Nat)):Int) !=2)=false:=rfl;have y2:(a3.due !=1200)=false:=by rw[R.a3d];rfl
    simp only[g1,go_sem];repeat refine sd2 ?_
    refine zUW (args2:=[.ptr ⟨L+1,6032⟩ 0 0,.int .i64 0,.agg (.int .i64 4::pk0.row)]) (by simp[pk0,Pkx.row,WkL,Wk]) (by simp[zAt,wkN,pk0,Pkx.row]) (zHQ (L:=L+1) ⟨L+1,6032⟩ (.inr ⟨rfl,by simp⟩) ⟨a2,B,[],[p1],400⟩ 4 pk0 (by simp[pk0]) (by simp[pk0]) .nilS zCI ⟨L+1,4257⟩ (by simp) a3 q2 R.f2 (by simp) (by simp) (by simp[Pkx.row]) (by simp[zA8]) c (by simp[zA8]) (by simp;omega) (by simp[Tk.row])) ?_;simp only[zN,zT,Tk.row,zJ,zF,zL,Pkx.row,y1,y2,zA8,zP,go_sem];repeat refine sd2 ?_
    refine ⟨2,by omega,by omega,?_⟩;exact (so0 hF2)
   ·have g1:decide ((2:Int)<3)=true:=rfl;have y1:((((3:Nat)):Int) !=3)=false:=rfl;have y2:(a4.due !=2800)=false:=by rw[R.a4d];rfl
    simp only[g1,go_sem];repeat refine sd2 ?_
    refine zUW (args2:=[.ptr ⟨L+1,6032⟩ 0 0,.int .i64 0,.agg (.int .i64 4::pk0.row)]) (by simp[pk0,Pkx.row,WkL,Wk]) (by simp[zAt,wkN,pk0,Pkx.row]) (zJZ (L:=L+1) ⟨L+1,6032⟩ (.inr ⟨rfl,by simp⟩) ⟨a3,B,[],[p1,q2],1200⟩ 4 pk0 (by simp[pk0]) (by simp[pk0]) .nilS zCI ⟨L+1,4257⟩ (by simp) a4 q3 R.f3 (by simp) (by simp) (by simp[Pkx.row]) (by simp[zA8]) c (by simp[zA8]) (by simp;omega) (by simp[Tk.row])) ?_;simp only[zN,zT,Tk.row,zJ,zF,zL,Pkx.row,y1,y2,zA8,zP,go_sem];repeat refine sd2 ?_
    refine ⟨3,by omega,by omega,?_⟩;exact (so0 hF2)
   ·have g1:decide ((3:Int)<3)=false:=rfl;simp only[g1,go_sem];repeat refine sd2 ?_
    refine ⟨(.sl ⟨L+1,30288⟩ 0 3,[q2]),(so0 hF2 (h2:=by simp[zAi,Tx.look,Pkx.row]))⟩
  ·refine loopK.intro _ _ (I:=fun j:Nat=>match j with|0=>⟨[none,none,none,none,none,some (.ptr ⟨L+1,3128⟩ 0 0),some (.ptr ⟨L+1,6032⟩ 0 0)]++oz 70++[some (.agg [.int .i64 399,.int .i64 1,.int .i64 400,.int .i64 400,.int .i64 2,.int .i64 1200,.int .i64 1200,.int .i64 3,.int .i64 2800]),some (.int .i64 0)]++oz 215,[(⟨L+1,3128⟩,.rows 33 43 true false [(gR a1 (gR B [.nilS,.sl ⟨L+1,4257⟩ 0 1,.int .i64 0]))]),(⟨L+1,6032⟩,.rows 33 43 true false [(gR a1 (gR B [.nilS,.sl ⟨L+1,4257⟩ 0 1,.int .i64 0]))]),(⟨L+1,4257⟩,.rows 38 4 true true [(pR p1)]),(⟨L+1,4274⟩,.cap ⟨L+1,4257⟩ c)],10000⟩|1=>⟨[none,none,none,none,none,some (.ptr ⟨L+1,3128⟩ 0 0),some (.ptr ⟨L+1,6032⟩ 0 0)]++oz 70++[some (.agg [.int .i64 399,.int .i64 1,.int .i64 400,.int .i64 400,.int .i64 2,.int .i64 1200,.int .i64 1200,.int .i64 3,.int .i64 2800]),some (.int .i64 1)]++oz 215,[(⟨L+1,3128⟩,.rows 33 43 true false [(gR a1 (gR B [.nilS,.sl ⟨L+1,4257⟩ 0 1,.int .i64 0]))]),(⟨L+1,6032⟩,.rows 33 43 true false [(gR a2 (gR B [.nilS,.sl ⟨L+1,4257⟩ 0 1,.int .i64 399]))]),(⟨L+1,4257⟩,.rows 38 4 true true [(pR p1)]),(⟨L+1,4274⟩,.cap ⟨L+1,4257⟩ c)],20000⟩|2=>⟨[none,none,none,none,none,some (.ptr ⟨L+1,3128⟩ 0 0),some (.ptr ⟨L+1,6032⟩ 0 0)]++oz 70++[some (.agg [.int .i64 399,.int .i64 1,.int .i64 400,.int .i64 400,.int .i64 2,.int .i64 1200,.int .i64 1200,.int .i64 3,.int .i64 2800]),some (.int .i64 2)]++oz 215,[(⟨L+1,3128⟩,.rows 33 43 true false [(gR a1 (gR B [.nilS,.sl ⟨L+1,4257⟩ 0 1,.int .i64 0]))]),(⟨L+1,6032⟩,.rows 33 43 true false [(gR a3 (gR B [.nilS,.sl ⟨L+1,4257⟩ 0 2,.int .i64 400]))]),(⟨L+1,4257⟩,.rows 38 4 true true [(pR p1),(pR q2)]),(⟨L+1,4274⟩,.cap ⟨L+1,4257⟩ c)],30000⟩|_=>⟨[none,none,none,none,none,some (.ptr ⟨L+1,3128⟩ 0 0),some (.ptr ⟨L+1,6032⟩ 0 0)]++oz 70++[some (.agg [.int .i64 399,.int .i64 1,.int .i64 400,.int .i64 400,.int .i64 2,.int .i64 1200,.int .i64 1200,.int .i64 3,.int .i64 2800]),some (.int .i64 3)]++oz 215,[(⟨L+1,3128⟩,.rows 33 43 true false [(gR a1 (gR B [.nilS,.sl ⟨L+1,4257⟩ 0 1,.int .i64 0]))]),(⟨L+1,6032⟩,.rows 33 43 true false [(gR a4 (gR B [.nilS,.sl ⟨L+1,4257⟩ 0 3,.int .i64 1200]))]),(⟨L+1,4257⟩,.rows 38 4 true true [(pR p1),(pR q2),(pR q3)]),(⟨L+1,4274⟩,.cap ⟨L+1,4257⟩ c)],40000⟩) (pre:=fun j=>j≤3) (μ:=fun j=>3-j) 0 (by omega) ((so0 hF2)) ?_
   intro j hj;have hj4:j=0∨j=1∨j=2∨j=3:=by omega
   rcases hj4 with rfl|rfl|rfl|rfl
   ·have g1:decide ((0:Int)<3)=true:=rfl;have y1:((((1:Nat)):Int) !=1)=false:=rfl;have y2:(a2.due !=400)=false:=by rw[R.a2d];rfl
    simp only[g1,go_sem];repeat refine sd2 ?_
    refine zUW (args2:=[.ptr ⟨L+1,6032⟩ 0 0,.int .i64 0,.agg (.int .i64 4::pk0.row)]) (by simp[pk0,Pkx.row,WkL,Wk]) (by simp[zAt,wkN,pk0,Pkx.row]) (zHK (L:=L+1) ⟨L+1,6032⟩ (.inr ⟨rfl,by simp⟩) ⟨a1,B,[],[p1],399⟩ 4 pk0 (by simp[pk0]) (by simp[pk0]) .nilS zCI ⟨L+1,4257⟩ (by simp) a2 R.f1 (by simp) (by simp) (by simp[Pkx.row]) (by simp[Tk.row])) ?_;simp only[zN,zT,Tk.row,zF,Pkx.row,y1,y2,zP,go_sem];repeat refine sd2 ?_
    refine ⟨1,by omega,by omega,?_⟩;exact (so0 hF2)
   ·have g1:decide ((1:Int)<3)=true:=rfl;have y1:((((2:Nat)):Int) !=2)=false:=rfl;have y2:(a3.due !=1200)=false:=by rw[R.a3d];rfl
    simp only[g1,go_sem];repeat refine sd2 ?_
    refine zUW (args2:=[.ptr ⟨L+1,6032⟩ 0 0,.int .i64 0,.agg (.int .i64 4::pk0.row)]) (by simp[pk0,Pkx.row,WkL,Wk]) (by simp[zAt,wkN,pk0,Pkx.row]) (zHQ (L:=L+1) ⟨L+1,6032⟩ (.inr ⟨rfl,by simp⟩) ⟨a2,B,[],[p1],400⟩ 4 pk0 (by simp[pk0]) (by simp[pk0]) .nilS zCI ⟨L+1,4257⟩ (by simp) a3 q2 R.f2 (by simp) (by simp) (by simp[Pkx.row]) (by simp[zA8]) c (by simp[zA8]) (by simp;omega) (by simp[Tk.row])) ?_;simp only[zN,zT,Tk.row,zJ,zF,zL,Pkx.row,y1,y2,zA8,zP,go_sem];repeat refine sd2 ?_
    refine ⟨2,by omega,by omega,?_⟩;exact (so0 hF2)
   ·have g1:decide ((2:Int)<3)=true:=rfl;have y1:((((3:Nat)):Int) !=3)=false:=rfl;have y2:(a4.due !=2800)=false:=by rw[R.a4d];rfl
    simp only[g1,go_sem];repeat refine sd2 ?_
    refine zUW (args2:=[.ptr ⟨L+1,6032⟩ 0 0,.int .i64 0,.agg (.int .i64 4::pk0.row)]) (by simp[pk0,Pkx.row,WkL,Wk]) (by simp[zAt,wkN,pk0,Pkx.row]) (zHQ (L:=L+1) ⟨L+1,6032⟩ (.inr ⟨rfl,by simp⟩) ⟨a3,B,[],[p1,q2],1200⟩ 4 pk0 (by simp[pk0]) (by simp[pk0]) .nilS zCI ⟨L+1,4257⟩ (by simp) a4 q3 R.f3 (by simp) (by simp) (by simp[Pkx.row]) (by simp[zA8]) c (by simp[zA8]) (by simp;omega) (by simp[Tk.row])) ?_;simp only[zN,zT,Tk.row,zJ,zF,zL,Pkx.row,y1,y2,zA8,zP,go_sem];repeat refine sd2 ?_
    refine ⟨3,by omega,by omega,?_⟩;exact (so0 hF2)
   ·have g1:decide ((3:Int)<3)=false:=rfl;simp only[g1,go_sem];repeat refine sd2 ?_
    refine ⟨(.sl ⟨L+1,4257⟩ 0 3,[q2,q3]),(so0 hF2 (h2:=by simp[zAi,Tx.look,Pkx.row]))⟩
 intro y _;have p1s:p1.sm:=zLx P1;have p2s:p2.sm:=zLx ((zAo s2).pk _ (List.mem_singleton.2 rfl)).1;have p3s:p3.sm:=zLx ((zAo R.s3).pk _ (List.mem_singleton.2 rfl)).1;have p5s:p5.sm:=zLx ((zAo R.s4).pk _ (List.mem_singleton.2 rfl)).1;have z1:(b1.st !=1)=false:=by rw[R.b1s];rfl
 have z2:(p2.tg !=11)=false:=by rw[R.p2t];rfl
 have z3:(c2.kd !=2)=false:=by rw[R.c2k];rfl
 have z4:(a5.st !=3)=false:=by rw[R.a5s];rfl
 have z5:(p3.tg !=22)=false:=by rw[R.p3t];rfl
 have z6:(c3.kd !=10)=false:=by rw[R.c3k];rfl
 have z7:(bl.st !=1)=false:=by rw[R.bls];rfl
 have z8:(pl.tg !=11)=false:=by rw[R.plt];rfl
 have z9:(cl.kd !=6)=false:=by rw[R.clk];rfl
 have w1:(b5.st !=4)=false:=by rw[R.b5s];rfl
 have w2:(c5.kd !=11)=false:=by rw[R.c5k];rfl
 have w3:(a6.st !=4)=false:=by rw[R.a6s];rfl
 have p2c:=R.p2c;have p3c:=R.p3c;have plc:=R.plc;have p5c:=R.p5c;refine vcu ⟨[none,none,none,none,none,some (.ptr ⟨L+1,3128⟩ 0 0),some (.ptr ⟨L+1,6032⟩ 0 0)]++oz 287,[(⟨L+1,3128⟩,.rows 33 43 true false [(gR a1 (gR B [.nilS,.sl ⟨L+1,4257⟩ 0 1,.int .i64 10]))]),(⟨L+1,6032⟩,.rows 33 43 true false [(gR a4 (gR B [.nilS,y.1,.int .i64 1200]))]),(⟨L+1,4257⟩,.rows 38 4 true true (([p1]++y.2).map Pkx.row))],110000⟩ ?_ ?_
 ·simp only[Tryz.f10,go_sem];repeat refine sd2 ?_
  refine ⟨(),(so0 hF2 (h2:=by simp[zAi,Tx.look,Pkx.row]))⟩
 refine vcu ⟨[none,none,none,none,none,some (.ptr ⟨L+1,3128⟩ 0 0),some (.ptr ⟨L+1,6032⟩ 0 0)]++oz 287,[(⟨L+1,3128⟩,.rows 33 43 true false [(gR a1 (gR b1 [.sl ⟨L+1,110002⟩ 0 1,.sl ⟨L+1,110001⟩ 0 0,.int .i64 10]))]),(⟨L+1,6032⟩,.rows 33 43 true false [(gR a4 (gR B [.nilS,y.1,.int .i64 1200]))]),(⟨L+1,110001⟩,.rows 38 4 true true []),(⟨L+1,110002⟩,.rows 38 4 true true [(pR p2)])],120000⟩ ?_ ?_
 ·simp only[Tryz.f10,go_sem];repeat refine sd2 ?_
  refine CallVC.same (zJY (pu:=false) (L:=L+1) ⟨L+1,3128⟩ (.inr ⟨rfl,by simp⟩) true ⟨a1,B,[],[p1],10⟩ ⟨L+1,4257⟩ (by simp) (by simp) (by simp) y.2 (by simp[Tk.w,Pkx.row]) 0 0 (by simp[Tk.w]) (by simp[Tk.w]) (by simp[Tk.w]) p1 (by simp[Tk.w]) p1s b1 [p2] s2 rfl (by simp[Tk.rw,Tk.w,Tk.row])) ?_;simp only[Tk.ev,Tk.rw,Tk.w,zN,zT,Tk.row,zF,zL,wM,qZ,vC,wW,zP,Pkx.row,Ckx.row,x3,z1,z2,z3,p2c,go_sem];repeat refine sd2 ?_
  refine ⟨(),(so0 hF2)⟩
 refine vcu ⟨[none,none,none,none,none,some (.ptr ⟨L+1,3128⟩ 0 0),some (.ptr ⟨L+1,6032⟩ 0 0)]++oz 287,[(⟨L+1,3128⟩,.rows 33 43 true false [(gR a1 (gR b1 [.sl ⟨L+1,110002⟩ 0 1,.sl ⟨L+1,110001⟩ 0 0,.int .i64 20]))]),(⟨L+1,6032⟩,.rows 33 43 true false [(gR a4 (gR B [.nilS,y.1,.int .i64 1200]))]),(⟨L+1,110001⟩,.rows 38 4 true true []),(⟨L+1,110002⟩,.rows 38 4 true true [(pR p2)])],130000⟩ ?_ ?_
 ·simp only[Tryz.f10,go_sem];repeat refine sd2 ?_
  refine ⟨(),(so0 hF2)⟩
 refine vcu ⟨[none,none,none,none,none,some (.ptr ⟨L+1,3128⟩ 0 0),some (.ptr ⟨L+1,6032⟩ 0 0)]++oz 287,[(⟨L+1,3128⟩,.rows 33 43 true false [(gR a5 (gR b1 [.sl ⟨L+1,130000⟩ 0 0,.sl ⟨L+1,130001⟩ 0 1,.int .i64 20]))]),(⟨L+1,6032⟩,.rows 33 43 true false [(gR a4 (gR B [.nilS,y.1,.int .i64 1200]))]),(⟨L+1,130000⟩,.rows 38 4 true true []),(⟨L+1,130001⟩,.rows 38 4 true true [(pR p3)])],140000⟩ ?_ ?_
 ·simp only[Tryz.f10,go_sem];repeat refine sd2 ?_
  refine CallVC.same (zDa (L:=L+1) ⟨L+1,3128⟩ (.inr ⟨rfl,by simp⟩) false ⟨a1,b1,[p2],[],20⟩ ⟨L+1,110002⟩ (by simp) (by simp) [] (by simp[Tk.w,Pkx.row]) 0 0 (by simp[Tk.w]) (by simp[Tk.w]) (by simp[Tk.w]) p2 (by simp[Tk.w]) p2s a5 [p3] R.s3 ⟨L+1,110001⟩ (by simp) (by simp) (by simp[Tk.w]) (by simp[Tk.w]) (by simp[Tk.rw,Tk.w,Tk.row])) ?_;simp only[Tk.ev,Tk.rw,Tk.w,zN,zT,Tk.row,zF,zL,wM,qZ,vC,wW,zP,Pkx.row,Ckx.row,x3,z4,z5,z6,p3c,go_sem];repeat refine sd2 ?_
  refine ⟨(),(so0 hF2)⟩
 refine vcu ⟨[none,none,none,none,none,some (.ptr ⟨L+1,3128⟩ 0 0),some (.ptr ⟨L+1,6032⟩ 0 0),none,none,some (.ptr ⟨L+1,140096⟩ 0 0)]++oz 284,[(⟨L+1,3128⟩,.rows 33 43 true false [(gR a5 (gR b1 [.sl ⟨L+1,130000⟩ 0 0,.sl ⟨L+1,130001⟩ 0 1,.int .i64 20]))]),(⟨L+1,6032⟩,.rows 33 43 true false [(gR a4 (gR B [.nilS,y.1,.int .i64 1200]))]),(⟨L+1,130000⟩,.rows 38 4 true true []),(⟨L+1,130001⟩,.rows 38 4 true true [(pR p3)]),(⟨L+1,140096⟩,.rows 33 43 true true [(gR a5 (gR b1 [.nilS,.nilS,.int .i64 60011]))])],150000⟩ ?_ ?_
 ·simp only[Tryz.f10,go_sem];repeat refine sd2 ?_
  refine ⟨(),(so0 hF2)⟩
 refine vcu ⟨[none,none,none,none,none,some (.ptr ⟨L+1,3128⟩ 0 0),some (.ptr ⟨L+1,6032⟩ 0 0),none,none,some (.ptr ⟨L+1,140096⟩ 0 0)]++oz 284,[(⟨L+1,3128⟩,.rows 33 43 true false [(gR a5 (gR b1 [.sl ⟨L+1,130000⟩ 0 0,.sl ⟨L+1,130001⟩ 0 1,.int .i64 20]))]),(⟨L+1,6032⟩,.rows 33 43 true false [(gR a4 (gR B [.nilS,y.1,.int .i64 1200]))]),(⟨L+1,130000⟩,.rows 38 4 true true []),(⟨L+1,130001⟩,.rows 38 4 true true [(pR p3)]),(⟨L+1,140096⟩,.rows 33 43 true false [(gR a5 (gR b1 [.nilS,.sl ⟨L+1,150192⟩ 0 1,.int .i64 60011]))]),(⟨L+1,150192⟩,.rows 38 4 true true [(pR p3)])],160000⟩ ?_ ?_
 ·simp only[Tryz.f10,go_sem];repeat refine sd2 ?_
  refine ⟨(),(so0 hF2)⟩
 refine vcu ⟨[none,none,none,none,none,some (.ptr ⟨L+1,3128⟩ 0 0),some (.ptr ⟨L+1,6032⟩ 0 0)]++oz 287,[(⟨L+1,3128⟩,.rows 33 43 true false [(gR a5 (gR b1 [.sl ⟨L+1,130000⟩ 0 0,.sl ⟨L+1,130001⟩ 0 1,.int .i64 20]))]),(⟨L+1,6032⟩,.rows 33 43 true false [(gR a4 (gR B [.nilS,y.1,.int .i64 1200]))]),(⟨L+1,130000⟩,.rows 38 4 true true []),(⟨L+1,130001⟩,.rows 38 4 true true [(pR p3)])],170000⟩ ?_ ?_
 ·simp only[Tryz.f10,go_sem];repeat refine sd2 ?_
  refine CallVC.same (zJY (pu:=false) (L:=L+1) ⟨L+1,140096⟩ (.inr ⟨rfl,by simp⟩) true ⟨a5,b1,[],[p3],60011⟩ ⟨L+1,150192⟩ (by simp) (by simp) (by simp) [] (by simp[Tk.w,Pkx.row]) 0 0 (by simp[Tk.w]) (by simp[Tk.w]) (by simp[Tk.w]) p3 (by simp[Tk.w]) p3s bl [pl] R.sl rfl (by simp[Tk.rw,Tk.w,Tk.row])) ?_;simp only[Tk.ev,Tk.rw,Tk.w,zN,zT,Tk.row,zF,zL,wM,qZ,vC,wW,zP,Pkx.row,Ckx.row,x3,z7,z8,z9,plc,go_sem];repeat refine sd2 ?_
  refine ⟨(),(so0 hF2)⟩
 refine vcu ⟨[none,none,none,none,none,some (.ptr ⟨L+1,3128⟩ 0 0),some (.ptr ⟨L+1,6032⟩ 0 0)]++oz 287,[(⟨L+1,3128⟩,.rows 33 43 true false [(gR a5 (gR b1 [.sl ⟨L+1,130000⟩ 0 0,.sl ⟨L+1,130001⟩ 0 1,.int .i64 30]))]),(⟨L+1,6032⟩,.rows 33 43 true false [(gR a4 (gR B [.nilS,y.1,.int .i64 1200]))]),(⟨L+1,130000⟩,.rows 38 4 true true []),(⟨L+1,130001⟩,.rows 38 4 true true [(pR p3)])],180000⟩ ?_ ?_
 ·simp only[Tryz.f10,go_sem];repeat refine sd2 ?_
  refine ⟨(),(so0 hF2)⟩
 refine vcu ⟨[none,none,none,none,none,some (.ptr ⟨L+1,3128⟩ 0 0),some (.ptr ⟨L+1,6032⟩ 0 0)]++oz 287,[(⟨L+1,3128⟩,.rows 33 43 true false [(gR a5 (gR b5 [.sl ⟨L+1,180001⟩ 0 1,.sl ⟨L+1,180000⟩ 0 0,.int .i64 30]))]),(⟨L+1,6032⟩,.rows 33 43 true false [(gR a4 (gR B [.nilS,y.1,.int .i64 1200]))]),(⟨L+1,180000⟩,.rows 38 4 true true []),(⟨L+1,180001⟩,.rows 38 4 true true [(pR p5)])],190000⟩ ?_ ?_
 ·simp only[Tryz.f10,go_sem];repeat refine sd2 ?_
  refine CallVC.same (zDa (L:=L+1) ⟨L+1,3128⟩ (.inr ⟨rfl,by simp⟩) true ⟨a5,b1,[],[p3],30⟩ ⟨L+1,130001⟩ (by simp) (by simp) [] (by simp[Tk.w,Pkx.row]) 0 0 (by simp[Tk.w]) (by simp[Tk.w]) (by simp[Tk.w]) p3 (by simp[Tk.w]) p3s b5 [p5] R.s4 ⟨L+1,130000⟩ (by simp) (by simp) (by simp[Tk.w]) (by simp[Tk.w]) (by simp[Tk.rw,Tk.w,Tk.row])) ?_;simp only[Tk.ev,Tk.rw,Tk.w,zN,zT,Tk.row,zF,zL,wM,qZ,vC,wW,zP,Pkx.row,Ckx.row,x3,w1,w2,p5c,go_sem];repeat refine sd2 ?_
  refine ⟨(),(so0 hF2)⟩
 refine vcu ⟨[none,none,none,none,none,some (.ptr ⟨L+1,3128⟩ 0 0),some (.ptr ⟨L+1,6032⟩ 0 0)]++oz 287,[(⟨L+1,3128⟩,.rows 33 43 true false [(gR a5 (gR b5 [.sl ⟨L+1,180001⟩ 0 1,.sl ⟨L+1,180000⟩ 0 0,.int .i64 40]))]),(⟨L+1,6032⟩,.rows 33 43 true false [(gR a4 (gR B [.nilS,y.1,.int .i64 1200]))]),(⟨L+1,180000⟩,.rows 38 4 true true []),(⟨L+1,180001⟩,.rows 38 4 true true [(pR p5)])],200000⟩ ?_ ?_
 ·simp only[Tryz.f10,go_sem];repeat refine sd2 ?_
  refine ⟨(),(so0 hF2)⟩
 refine vcu ⟨[none,none,none,none,none,some (.ptr ⟨L+1,3128⟩ 0 0),some (.ptr ⟨L+1,6032⟩ 0 0)]++oz 287,[(⟨L+1,6032⟩,.rows 33 43 true false [(gR a4 (gR B [.nilS,y.1,.int .i64 1200]))])],210000⟩ ?_ ?_
 ·simp only[Tryz.f10,go_sem];repeat refine sd2 ?_
  refine CallVC.same (zDa (L:=L+1) ⟨L+1,3128⟩ (.inr ⟨rfl,by simp⟩) false ⟨a5,b5,[p5],[],40⟩ ⟨L+1,180001⟩ (by simp) (by simp) [] (by simp[Tk.w,Pkx.row]) 0 0 (by simp[Tk.w]) (by simp[Tk.w]) (by simp[Tk.w]) p5 (by simp[Tk.w]) p5s a6 [] R.s5 ⟨L+1,180000⟩ (by simp) (by simp) (by simp[Tk.w]) (by simp[Tk.w]) (by simp[Tk.rw,Tk.w,Tk.row])) ?_;simp only[Tk.ev,Tk.rw,Tk.w,zN,zT,Tk.row,zF,wM,qZ,vC,wW,zP,w3,go_sem];repeat refine sd2 ?_
  refine ⟨(),(so0 hF2)⟩
 refine vcu ⟨[none,none,none,none,none,some (.ptr ⟨L+1,3128⟩ 0 0),some (.ptr ⟨L+1,6032⟩ 0 0)]++oz 5++[some (.int .i64 8)]++oz 281,[(⟨L+1,6032⟩,.rows 33 43 true false [(gR a4 (gR B [.nilS,y.1,.int .i64 1200]))])],220000⟩ ?_ ?_
 ·simp only[Tryz.f10,go_sem];repeat refine sd2 ?_
  refine zUW (args2:=[.agg a4.row,.int .i64 1200,.agg (.int .i64 2::pk0.row)]) (by simp[pk0,Pkx.row,Gx.row,WkL,Wk]) (by simp[zAt,wkN,pk0,Pkx.row,Gx.row]) (zEP R.e1 (by simp[pk0]) (by simp[pk0])) ?_;simp only[Gx.row,zJ,zF,zP,zAV,zGx,zIni,go_sem];repeat refine sd2 ?_
  refine ⟨(),(so0 hF2)⟩
 refine vcu ⟨oz 12++[some (.int .i64 8),none,none,some (.int .i64 8)]++oz 278,[],230000⟩ ?_ ?_
 ·simp only[Tryz.f10,go_sem];repeat refine sd2 ?_
  refine zUW (args2:=[.agg a4.row,.int .i64 1200,.agg (.int .i64 1::pk0.row)]) (by simp[pk0,Pkx.row,Gx.row,WkL,Wk]) (by simp[zAt,wkN,pk0,Pkx.row,Gx.row]) (zEP R.e2 (by simp[pk0]) (by simp[pk0])) ?_;simp only[Gx.row,zJ,zF,zP,zAV,zGx,zIni,go_sem];repeat refine sd2 ?_
  refine ⟨(),(so0 hF2)⟩
 have e8:((8:Int)==8)=true:=rfl;refine VT.of (zAg (L+1)) ?_;simp only[Tryz.f10,e8,go_sem];repeat refine sd2 ?_
 exact .bool (.inr rfl) rfl rfl (by simp[UpdAll])
end Go.Proofs.YtifhjhbfhdcahaaGreat
end
