/- Lemmas for the walk: GK158. -/
import Derived.Test.YtifhjhbfhdcahaaGreatP28
import Derived.Test.YtifhjhbfhdcahaaGreatP30
import Derived.Test.YtifhjhbfhdcahaaGreatP20
set_option linter.all false
section
namespace Go.Proofs.YtifhjhbfhdcahaaGreat
open Go.Tx
set_option maxRecDepth 100000
set_option maxHeartbeats 16000000
def zL3(s:List UInt8):List UInt8:=List.take ((min (s.length:Int) 200).toNat-0) s
theorem zH3(s:List UInt8):List.take ((min (s.length:Int) 200).toNat-0) s=zL3 s:=rfl
def zSN(d:Ini):Ini:={d with ck:=zL3 d.ck}
theorem zL4{F:SF}{L nx:Nat}(fr tt:Int)(sec0:List UInt8)(own0 peer0:Ini)(now:Int)(n:Nat)(hn:n<65536)(l:List Mv)(hm:∀m∈l,m.what<256∧m.which<256∧m.later<256)(wb wc:Nat)(hwb:wb<256)(hwc:wc<256)(nb nc:Int)(sb sc:List UInt8):
  Con Tryz.prog 9 [.int .i64 fr,.int .i64 tt,.str sec0,.agg own0.row,.agg peer0.row,.int .i64 now,.int .u16 n,.fs 3 (l.map Mv.row),.agg [.int .u8 wb,.int .i64 nb,.str sb],.agg [.int .u8 wc,.int .i64 nc,.str sc]] F L nx nx (.bool true) [] []:=by
 have tl:(zBB hT kT).length=2:=rfl;have tn:=zCg hT kT;have wk:=fun F L nx=>zL2 (F:=F) (L:=L) (nx:=nx)
 have hK:=fun F L nx=>zNt (F:=F) (L:=L) (nx:=nx)
 obtain ⟨sec,hsec⟩:∃s,s=zL3 sec0:=⟨_,rfl⟩;obtain ⟨own,hown⟩:∃d,d=zSN own0:=⟨_,rfl⟩;obtain ⟨peer,hpeer⟩:∃d,d=zSN peer0:=⟨_,rfl⟩;have es:zL3 sec0=sec:=hsec.symm;have eo:zL3 own0.ck=own.ck:=by rw[hown];rfl
 have ep:zL3 peer0.ck=peer.ck:=by rw[hpeer];rfl
 have oa:own.tag=own0.tag∧own.win=own0.win∧own.out=own0.out∧own.inn=own0.inn∧own.tsn=own0.tsn:=by rw[hown];exact ⟨rfl,rfl,rfl,rfl,rfl⟩
 have pa:peer.tag=peer0.tag∧peer.win=peer0.win∧peer.out=peer0.out∧peer.inn=peer0.inn∧peer.tsn=peer0.tsn:=by rw[hpeer];exact ⟨rfl,rfl,rfl,rfl,rfl⟩
 obtain ⟨G,hG⟩:∃G,G=zIr fr tt sec own:=⟨_,rfl⟩;have hN1:=fun F L nx=>zKM (F:=F) (L:=L) (nx:=nx) fr tt sec own
 have hN2:=fun F L nx=>zQ6 (F:=F) (L:=L) (nx:=nx) fr tt sec own
 rw[←hG]at hN1 hN2;simp only[Ini.row];rw[←oa.1,←oa.2.1,←oa.2.2.1,←oa.2.2.2.1,←oa.2.2.2.2,←pa.1,←pa.2.1,←pa.2.2.1,←pa.2.2.2.1,←pa.2.2.2.2];refine zUU (zAg (L+1)) rfl rfl (fn:=Tryz.f9) (c:=Tryz.f9.body.getD .skip) (by kernel_rfl) (by rfl) (by kernel_rfl) rfl (by simp) ?_;intro F3 hF1 hF2;refine vcu ⟨[some (.int .i64 fr),some (.int .i64 tt),some (.str sec0),none,none,some (.int .i64 now),some (.int .u16 n),some (.fs 3 (l.map Mv.row))]++oz 5++[some (.ptr ⟨L+1,0⟩ 0 0),some (.ptr ⟨L+1,32⟩ 0 0),none,none,none,some (.ptr ⟨L+1,64⟩ 0 0),some (.ptr ⟨L+1,96⟩ 0 0)]++oz 167,[(⟨L+1,0⟩,.rows 26 6 true true [[.int .i64 own.tag,.int .i64 own.win,.int .i64 own.out,.int .i64 own.inn,.int .i64 own.tsn,.str own0.ck]]),(⟨L+1,32⟩,.rows 26 6 true true [[.int .i64 peer.tag,.int .i64 peer.win,.int .i64 peer.out,.int .i64 peer.inn,.int .i64 peer.tsn,.str peer0.ck]]),(⟨L+1,64⟩,.rows 46 3 true true [[.int .u8 wb,.int .i64 nb,.str sb]]),(⟨L+1,96⟩,.rows 46 3 true true [[.int .u8 wc,.int .i64 nc,.str sc]])],10000⟩ ?_ ?_
 ·simp only[Tryz.f9,go_sem];repeat refine sd2 ?_
  exact ⟨(),(so0 hF2)⟩
 refine vcu ⟨[some (.int .i64 fr),some (.int .i64 tt),some (.str sec0),none,none,some (.int .i64 now),some (.int .u16 n),some (.fs 3 (l.map Mv.row))]++oz 5++[some (.ptr ⟨L+1,0⟩ 0 0),some (.ptr ⟨L+1,32⟩ 0 0),none,none,none,some (.ptr ⟨L+1,64⟩ 0 0),some (.ptr ⟨L+1,96⟩ 0 0)]++oz 167,[(⟨L+1,0⟩,.rows 26 6 true true [[.int .i64 own.tag,.int .i64 own.win,.int .i64 own.out,.int .i64 own.inn,.int .i64 own.tsn,.str own0.ck]]),(⟨L+1,32⟩,.rows 26 6 true true [[.int .i64 peer.tag,.int .i64 peer.win,.int .i64 peer.out,.int .i64 peer.inn,.int .i64 peer.tsn,.str peer0.ck]]),(⟨L+1,64⟩,.rows 46 3 true true [[.int .u8 wb,.int .i64 nb,.str sb]]),(⟨L+1,96⟩,.rows 46 3 true true [[.int .u8 wc,.int .i64 nc,.str sc]])],20000⟩ ?_ ?_
 ·simp only[Tryz.f9,go_sem];repeat refine sd2 ?_
  refine CallVC.same (wk _ _ _) ?_;simp only[go_sem];repeat refine sd2 ?_
  exact ⟨(),(so0 hF2)⟩
 refine vcu ⟨[some (.int .i64 fr),some (.int .i64 tt),some (.str sec0),none,none,some (.int .i64 now),some (.int .u16 n),some (.fs 3 (l.map Mv.row))]++oz 5++[some (.ptr ⟨L+1,0⟩ 0 0),some (.ptr ⟨L+1,32⟩ 0 0),none,none,none,some (.ptr ⟨L+1,64⟩ 0 0),some (.ptr ⟨L+1,96⟩ 0 0),none,some (.ptr ⟨L+1,20000⟩ 0 0)]++oz 165,[(⟨L+1,0⟩,.rows 26 6 true true [[.int .i64 own.tag,.int .i64 own.win,.int .i64 own.out,.int .i64 own.inn,.int .i64 own.tsn,.str own0.ck]]),(⟨L+1,32⟩,.rows 26 6 true true [[.int .i64 peer.tag,.int .i64 peer.win,.int .i64 peer.out,.int .i64 peer.inn,.int .i64 peer.tsn,.str peer0.ck]]),(⟨L+1,64⟩,.rows 46 3 true true [[.int .u8 wb,.int .i64 nb,.str sb]]),(⟨L+1,96⟩,.rows 46 3 true true [[.int .u8 wc,.int .i64 nc,.str sc]]),(⟨L+1,20000⟩,.rows 53 2 true true [zBB hT kT])],30000⟩ ?_ ?_
 ·simp only[Tryz.f9,go_sem];repeat refine sd2 ?_
  refine CallVC.same (hK _ _ _) ?_;simp only[tl,tn,go_sem];repeat refine sd2 ?_
  exact ⟨(),(so0 hF2)⟩
 refine vcu ⟨[some (.int .i64 fr),some (.int .i64 tt),some (.str sec),none,none,some (.int .i64 now),some (.int .u16 n),some (.fs 3 (l.map Mv.row))]++oz 5++[some (.ptr ⟨L+1,0⟩ 0 0),some (.ptr ⟨L+1,32⟩ 0 0),none,none,none,some (.ptr ⟨L+1,64⟩ 0 0),some (.ptr ⟨L+1,96⟩ 0 0),none,some (.ptr ⟨L+1,20000⟩ 0 0)]++oz 165,[(⟨L+1,0⟩,.rows 26 6 true true [[.int .i64 own.tag,.int .i64 own.win,.int .i64 own.out,.int .i64 own.inn,.int .i64 own.tsn,.str own0.ck]]),(⟨L+1,32⟩,.rows 26 6 true true [[.int .i64 peer.tag,.int .i64 peer.win,.int .i64 peer.out,.int .i64 peer.inn,.int .i64 peer.tsn,.str peer0.ck]]),(⟨L+1,64⟩,.rows 46 3 true true [[.int .u8 wb,.int .i64 nb,.str sb]]),(⟨L+1,96⟩,.rows 46 3 true true [[.int .u8 wc,.int .i64 nc,.str sc]]),(⟨L+1,20000⟩,.rows 53 2 true true [zBB hT kT])],40000⟩ ?_ ?_
 ·simp only[Tryz.f9,zH3,es,go_sem];repeat refine sd2 ?_
  exact ⟨(),(so0 hF2)⟩
 refine vcu ⟨[some (.int .i64 fr),some (.int .i64 tt),some (.str sec),none,none,some (.int .i64 now),some (.int .u16 n),some (.fs 3 (l.map Mv.row))]++oz 5++[some (.ptr ⟨L+1,0⟩ 0 0),some (.ptr ⟨L+1,32⟩ 0 0),none,none,none,some (.ptr ⟨L+1,64⟩ 0 0),some (.ptr ⟨L+1,96⟩ 0 0),none,some (.ptr ⟨L+1,20000⟩ 0 0)]++oz 165,[(⟨L+1,0⟩,.rows 26 6 true true [[.int .i64 own.tag,.int .i64 own.win,.int .i64 own.out,.int .i64 own.inn,.int .i64 own.tsn,.str own.ck]]),(⟨L+1,32⟩,.rows 26 6 true true [[.int .i64 peer.tag,.int .i64 peer.win,.int .i64 peer.out,.int .i64 peer.inn,.int .i64 peer.tsn,.str peer.ck]]),(⟨L+1,64⟩,.rows 46 3 true true [[.int .u8 wb,.int .i64 nb,.str sb]]),(⟨L+1,96⟩,.rows 46 3 true true [[.int .u8 wc,.int .i64 nc,.str sc]]),(⟨L+1,20000⟩,.rows 53 2 true true [zBB hT kT])],50000⟩ ?_ ?_
 ·simp only[Tryz.f9,zH3,eo,ep,go_sem];repeat refine sd2 ?_
  refine ⟨zAA (fun x=>x.i) (by simp only[zA0,List.map];kernel_rfl),?_⟩;repeat refine sd2 ?_
  exact ⟨(),(so0 hF2)⟩
 obtain ⟨g1,hg1⟩:∃g,g=if G.ok then G else zGx:=⟨_,rfl⟩
 obtain ⟨e,he⟩:∃e:Int,e=if G.ok then 0 else 2:=⟨_,rfl⟩
 have hN3:∀F L nx,Con Tryz.prog 29 [.int .i64 fr,.int .i64 tt,.str sec,.agg own.row] F L nx nx (.tup [.agg g1.row,.int .i64 e]) [] []:=fun F L nx=>by
  have:=hN1 F L nx;cases hok:G.ok;·rw[hok,if_neg (by simp)]at this;rw[hg1,he,hok];exact this
  ·rw[hok,if_pos rfl]at this;rw[hg1,he,hok];exact this
 simp only[Gx.row,Ini.row]at hN2 hN3;refine vcu ⟨[some (.int .i64 fr),some (.int .i64 tt),some (.str sec),none,none,some (.int .i64 now),some (.int .u16 n),some (.fs 3 (l.map Mv.row))]++oz 5++[some (.ptr ⟨L+1,0⟩ 0 0),some (.ptr ⟨L+1,32⟩ 0 0),none,none,none,some (.ptr ⟨L+1,64⟩ 0 0),some (.ptr ⟨L+1,96⟩ 0 0),none,some (.ptr ⟨L+1,20000⟩ 0 0),some (.ptr ⟨L+1,50224⟩ 0 0),some (.int .i64 e)]++oz 163,[(⟨L+1,0⟩,.rows 26 6 true true [[.int .i64 own.tag,.int .i64 own.win,.int .i64 own.out,.int .i64 own.inn,.int .i64 own.tsn,.str own.ck]]),(⟨L+1,32⟩,.rows 26 6 true true [[.int .i64 peer.tag,.int .i64 peer.win,.int .i64 peer.out,.int .i64 peer.inn,.int .i64 peer.tsn,.str peer.ck]]),(⟨L+1,64⟩,.rows 46 3 true true [[.int .u8 wb,.int .i64 nb,.str sb]]),(⟨L+1,96⟩,.rows 46 3 true true [[.int .u8 wc,.int .i64 nc,.str sc]]),(⟨L+1,20000⟩,.rows 53 2 true true [zBB hT kT]),(⟨L+1,50224⟩,.rows 28 20 true true [(gR g1 [])])],60000⟩ ?_ ?_
 ·simp only[Tryz.f9,go_sem];repeat refine sd2 ?_
  refine CallVC.same (hN3 _ _ _) ?_;simp only[go_sem];repeat refine sd2 ?_
  exact ⟨(),(so0 hF2)⟩
 refine vcu ⟨[some (.int .i64 fr),some (.int .i64 tt),some (.str sec),none,none,some (.int .i64 now),some (.int .u16 n),some (.fs 3 (l.map Mv.row))]++oz 5++[some (.ptr ⟨L+1,0⟩ 0 0),some (.ptr ⟨L+1,32⟩ 0 0),none,none,none,some (.ptr ⟨L+1,64⟩ 0 0),some (.ptr ⟨L+1,96⟩ 0 0),none,some (.ptr ⟨L+1,20000⟩ 0 0),some (.ptr ⟨L+1,50224⟩ 0 0),some (.int .i64 e),some (.ptr ⟨L+1,60224⟩ 0 0),some (.bool G.ok)]++oz 161,[(⟨L+1,0⟩,.rows 26 6 true true [[.int .i64 own.tag,.int .i64 own.win,.int .i64 own.out,.int .i64 own.inn,.int .i64 own.tsn,.str own.ck]]),(⟨L+1,32⟩,.rows 26 6 true true [[.int .i64 peer.tag,.int .i64 peer.win,.int .i64 peer.out,.int .i64 peer.inn,.int .i64 peer.tsn,.str peer.ck]]),(⟨L+1,64⟩,.rows 46 3 true true [[.int .u8 wb,.int .i64 nb,.str sb]]),(⟨L+1,96⟩,.rows 46 3 true true [[.int .u8 wc,.int .i64 nc,.str sc]]),(⟨L+1,20000⟩,.rows 53 2 true true [zBB hT kT]),(⟨L+1,50224⟩,.rows 28 20 true true [(gR g1 [])]),(⟨L+1,60224⟩,.rows 28 20 true true [(gR G [])])],70000⟩ ?_ ?_
 ·simp only[Tryz.f9,go_sem];repeat refine sd2 ?_
  refine CallVC.same (hN2 _ _ _) ?_;simp only[go_sem];repeat refine sd2 ?_
  exact ⟨(),(so0 hF2)⟩
 refine vcu ⟨[none,none,none,none,none,some (.int .i64 now),some (.int .u16 n),some (.fs 3 (l.map Mv.row))]++oz 6++[some (.ptr ⟨L+1,32⟩ 0 0),none,none,none,some (.ptr ⟨L+1,64⟩ 0 0),some (.ptr ⟨L+1,96⟩ 0 0),none,some (.ptr ⟨L+1,20000⟩ 0 0),none,none,some (.ptr ⟨L+1,60224⟩ 0 0)]++oz 162,[(⟨L+1,32⟩,.rows 26 6 true true [[.int .i64 peer.tag,.int .i64 peer.win,.int .i64 peer.out,.int .i64 peer.inn,.int .i64 peer.tsn,.str peer.ck]]),(⟨L+1,64⟩,.rows 46 3 true true [[.int .u8 wb,.int .i64 nb,.str sb]]),(⟨L+1,96⟩,.rows 46 3 true true [[.int .u8 wc,.int .i64 nc,.str sc]]),(⟨L+1,20000⟩,.rows 53 2 true true [zBB hT kT]),(⟨L+1,60224⟩,.rows 28 20 true true [(gR G [])])],80000⟩ ?_ ?_
 ·cases hok:G.ok
  ·rw[hok,if_neg (by simp)]at hg1 he;subst hg1;subst he;simp only[zGx,zIni];simp only[Tryz.f9,go_sem];repeat refine sd2 ?_
   exact ⟨(),(so0 hF2)⟩
  ·rw[hok,if_pos rfl]at hg1 he;subst hg1;subst he;simp only[Tryz.f9,go_sem];repeat refine sd2 ?_
   exact ⟨(),(so0 hF2)⟩
 clear hN1 hN2 hN3 wk hK hg1 he;have hS:=fun F L nx=>zNy (F:=F) (L:=L) (nx:=nx) n hn true l hm
 obtain ⟨K,hKe⟩:∃K,K=zIm n true l (min l.length 12):=⟨_,rfl⟩;rw[←hKe]at hS;simp only[Tk.frow,Tk.row]at hS;refine vcu ⟨[none,none,none,none,none,some (.int .i64 now)]++oz 8++[some (.ptr ⟨L+1,32⟩ 0 0),none,none,none,some (.ptr ⟨L+1,64⟩ 0 0),some (.ptr ⟨L+1,96⟩ 0 0),none,some (.ptr ⟨L+1,20000⟩ 0 0),none,none,some (.ptr ⟨L+1,60224⟩ 0 0),none,some (.ptr ⟨L+1,80096⟩ 0 0)]++oz 160,[(⟨L+1,32⟩,.rows 26 6 true true [[.int .i64 peer.tag,.int .i64 peer.win,.int .i64 peer.out,.int .i64 peer.inn,.int .i64 peer.tsn,.str peer.ck]]),(⟨L+1,64⟩,.rows 46 3 true true [[.int .u8 wb,.int .i64 nb,.str sb]]),(⟨L+1,96⟩,.rows 46 3 true true [[.int .u8 wc,.int .i64 nc,.str sc]]),(⟨L+1,20000⟩,.rows 53 2 true true [zBB hT kT]),(⟨L+1,60224⟩,.rows 28 20 true true [(gR G [])]),(⟨L+1,80096⟩,.rows 56 43 true true [(gR K.g0 (gR K.g1 [.fs 4 (K.w0.map Pkx.row),.fs 4 (K.w1.map Pkx.row),.int .i64 K.now]))])],90000⟩ ?_ ?_
 ·simp only[Tryz.f9,go_sem];repeat refine sd2 ?_
  refine CallVC.same (hS _ _ _) ?_;simp only[go_sem];repeat refine sd2 ?_
  exact ⟨(),(so0 hF2)⟩
 have hB:=fun w h n s g F L nx=>zLz (F:=F) (L:=L) (nx:=nx) w h n s g
 have hB1:=hB wb hwb nb sb K.g0;have hB2:=hB wb hwb nb sb K.g1;have hB3:=hB wc hwc nc sc (zLy wb nb sb K.g1);obtain ⟨X3,hX3⟩:∃g,g=zLy wb nb sb K.g0:=⟨_,rfl⟩;obtain ⟨Y,hY⟩:∃g,g=zLy wb nb sb K.g1:=⟨_,rfl⟩;rw[←hX3]at hB1;rw[←hY]at hB2 hB3;obtain ⟨X4,hX4⟩:∃g,g=zLy wc nc sc Y:=⟨_,rfl⟩;rw[←hX4]at hB3;simp only[Gx.row]at hB1 hB2 hB3;clear hB hS;obtain ⟨A5,hA5⟩:∃a:List PV,a=(gR G (gR K.g0 (gR K.g1 (gR X3 (gR X4 []))))):=⟨_,rfl⟩;have lA5:A5.length=100:=by rw[hA5];rfl
 have xA5:∀j,j<5→∃X:Gx,List.take 20 (List.drop (j*20) A5)=X.row:=fun j hj=>by
  have:j=0∨j=1∨j=2∨j=3∨j=4:=by omega
  rcases this with rfl|rfl|rfl|rfl|rfl;·exact ⟨G,by rw[hA5];rfl⟩
  ·exact ⟨K.g0,by rw[hA5];rfl⟩
  ·exact ⟨K.g1,by rw[hA5];rfl⟩
  ·exact ⟨X3,by rw[hA5];rfl⟩
  ·exact ⟨X4,by rw[hA5];rfl⟩
 refine VT.of (zAg (L+1)) ?_;simp only[Tryz.f9,go_sem];repeat refine sd2 ?_
 refine CallVC.same (hB1 _ _ _) ?_;simp only[go_sem];repeat refine sd2 ?_
 refine CallVC.same (hB2 _ _ _) ?_;simp only[go_sem];repeat refine sd2 ?_
 refine CallVC.same (hB3 _ _ _) ?_;simp only[go_sem];repeat refine sd2 ?_
 refine ⟨zAA (fun x=>x.i) (by simp only[zA0,List.map];kernel_rfl),?_⟩;repeat refine sd2 ?_
 refine loopK.intro _ _ (I:=fun j:Nat=>⟨[none,none,none,none,none,some (.int .i64 now)]++oz 8++[some (.ptr ⟨L+1,32⟩ 0 0)]++oz 6++[some (.ptr ⟨L+1,20000⟩ 0 0),none,none,none,none,some (.ptr ⟨L+1,80096⟩ 0 0)]++oz 96++[some (.agg A5),some (.int .i64 (j:Int))]++oz 62,[(⟨L+1,32⟩,.rows 26 6 true true [[.int .i64 peer.tag,.int .i64 peer.win,.int .i64 peer.out,.int .i64 peer.inn,.int .i64 peer.tsn,.str peer.ck]]),(⟨L+1,20000⟩,.rows 53 2 true true [zBB hT kT]),(⟨L+1,80096⟩,.rows 56 43 true true [(gR K.g0 (gR K.g1 [.fs 4 (K.w0.map Pkx.row),.fs 4 (K.w1.map Pkx.row),.int .i64 K.now]))])],100000*(j+1)⟩) (pre:=fun j=>j≤5) (μ:=fun j=>5-j) 0 (by omega) ?_ ?_;·exact (so0 hF2 (h1:=by(simp only[hA5,go_sem,zAf,and_self,zW];try trivial)))
 obtain ⟨I2,hI2⟩:∃a:List PV,a=[.int .i64 peer.tag,.int .i64 peer.win,.int .i64 peer.out,.int .i64 peer.inn,.int .i64 peer.tsn,.str peer.ck,.int .i64 K.g1.own.tag,.int .i64 K.g1.own.win,.int .i64 K.g1.own.out,.int .i64 K.g1.own.inn,.int .i64 K.g1.own.tsn,.str K.g1.own.ck]:=⟨_,rfl⟩;have lI2:I2.length=12:=by rw[hI2];rfl
 have xI2:∀k,k<2→∃P:Ini,List.take 6 (List.drop (k*6) I2)=P.row:=fun k hk=>by
  have:k=0∨k=1:=by omega
  rcases this with rfl|rfl;·exact ⟨peer,by rw[hI2];rfl⟩
  ·exact ⟨K.g1.own,by rw[hI2];rfl⟩
 intro j hj;by_cases hlt:j<5
 ·have g1:decide ((j:Int)<5)=true:=dT (by omega);obtain ⟨X,hX⟩:=xA5 j hlt;have q1:∀k,k<100000→(100000*(j+1)=k)=False:=fun k h=>eq_false (by omega)
  simp only[Gx.row]at hX;have hR:=fun F L nx=>zEu (F:=F) (L:=L) (nx:=nx) X
  have hC:=fun F L nx=>zCO (F:=F) (L:=L) (nx:=nx) X
  simp only[Gx.row]at hR hC;cases hok:X.ok
  ·rw[hok]at hR;rw[hok,if_neg (by simp)]at hC;simp only[q1,hX,g1,lA5,zA,go_sem];repeat refine sd2 ?_
   refine CallVC.same (hR _ _ _) ?_;simp only[q1,zA,go_sem];repeat refine sd2 ?_
   refine CallVC.same (hC _ _ _) ?_;simp only[q1,zA,go_sem];repeat refine sd2 ?_
   refine loopK.intro _ _ (I:=fun k:Nat=>⟨[none,none,none,none,none,some (.int .i64 now)]++oz 8++[some (.ptr ⟨L+1,32⟩ 0 0)]++oz 6++[some (.ptr ⟨L+1,20000⟩ 0 0),none,none,none,none,some (.ptr ⟨L+1,80096⟩ 0 0),none,some (.ptr ⟨L+1,100000*(j+1)+64⟩ 0 0),some (.bool false),some (.int .i64 330)]++oz 92++[some (.agg A5),some (.int .i64 (j:Int))]++oz 15++[some (.agg I2),some (.int .i64 (k:Int))]++oz 45,[(⟨L+1,32⟩,.rows 26 6 true true [[.int .i64 peer.tag,.int .i64 peer.win,.int .i64 peer.out,.int .i64 peer.inn,.int .i64 peer.tsn,.str peer.ck]]),(⟨L+1,20000⟩,.rows 53 2 true true [zBB hT kT]),(⟨L+1,80096⟩,.rows 56 43 true true [(gR K.g0 (gR K.g1 [.fs 4 (K.w0.map Pkx.row),.fs 4 (K.w1.map Pkx.row),.int .i64 K.now]))]),(⟨L+1,100000*(j+1)+64⟩,.rows 28 20 true true [(gR X [])])],100000*(j+1)+20000*(k+1)⟩) (pre:=fun k=>k≤2) (μ:=fun k=>2-k) 0 (by omega) ?_ ?_
   ·exact (so0 hF2 (h1:=by(simp only[hI2,go_sem,zAf,and_self,zW];try trivial)) (h2:=by simp[zAi,Tx.look,q1]))
   intro k hk;by_cases hkt:k<2
   ·have g2:decide ((k:Int)<2)=true:=dT (by omega);obtain ⟨P,hP⟩:=xI2 k hkt;have hCo:=fun F L nx=>zHy (F:=F) (L:=L) (nx:=nx) X P now
    simp only[Gx.row,Ini.row]at hP hCo;obtain ⟨z,hz⟩:∃z,z=100000*(j+1)+20000*(k+1):=⟨_,rfl⟩;have q3:∀i,i<100000→(z=i)=False:=fun i h=>eq_false (by omega)
    have q4:∀a b,a<10000→b<10000→(z+a=100000*(j+1)+b)=False:=fun a b h1 h2=>eq_false (by omega)
    have q5:(z=100000*(j+1))=False:=eq_false (by omega);have q6:∀b,b<10000→(z=100000*(j+1)+b)=False:=fun b h=>eq_false (by omega)
    rw[←hz];have hcv:zFn X P now=([],330):=by unfold zFn;rw[if_pos hok]
    rw[hcv]at hCo;have e33:((330:Int)==0)=false:=rfl;have e34:((330:Int) !=330)=false:=rfl;simp only[q3,q4,hP,g2,lI2,q1,zA,go_sem];repeat refine sd2 ?_
    refine CallVC.same (hCo _ _ _) ?_;simp only[e33,e34,zA,go_sem];repeat refine sd2 ?_
    refine ⟨k+1,by omega,by omega,?_⟩;exact (so0 hF2 (h1:=by(simp only[go_sem,zAf,and_self,zY];try trivial)) (h2:=by simp[zAi,Tx.look,q1]) (h4:=by simp only[];omega))
   ·have hk2:k=2:=by omega
    subst hk2;have g2:decide (((2:Nat):Int)<2)=false:=rfl;have g2':decide ((2:Int)<2)=false:=rfl;simp only[g2,zA,go_sem];repeat refine sd2 ?_
    refine ⟨j+1,by omega,by omega,?_⟩;exact (so0 hF2 (h1:=by(simp only[go_sem,zAf,and_self,zY];try trivial)) (h4:=by simp only[];omega))
  ·rw [hok]at hR;rw[hok,if_pos rfl]at hC;simp only[q1,hX,g1,lA5,zA,go_sem];repeat refine sd2 ?_
   refine CallVC.same (hR _ _ _) ?_;simp only[q1,zA,go_sem];repeat refine sd2 ?_
   refine CallVC.same (hC _ _ _) ?_;simp only[q1,zA,go_sem];repeat refine sd2 ?_
   refine loopK.intro _ _ (I:=fun k:Nat=>⟨[none,none,none,none,none,some (.int .i64 now)]++oz 8++[some (.ptr ⟨L+1,32⟩ 0 0)]++oz 6++[some (.ptr ⟨L+1,20000⟩ 0 0),none,none,none,none,some (.ptr ⟨L+1,80096⟩ 0 0),none,some (.ptr ⟨L+1,100000*(j+1)+64⟩ 0 0),some (.bool true),some (.int .i64 0)]++oz 92++[some (.agg A5),some (.int .i64 (j:Int))]++oz 15++[some (.agg I2),some (.int .i64 (k:Int))]++oz 45,[(⟨L+1,32⟩,.rows 26 6 true true [[.int .i64 peer.tag,.int .i64 peer.win,.int .i64 peer.out,.int .i64 peer.inn,.int .i64 peer.tsn,.str peer.ck]]),(⟨L+1,20000⟩,.rows 53 2 true true [zBB hT kT]),(⟨L+1,80096⟩,.rows 56 43 true true [(gR K.g0 (gR K.g1 [.fs 4 (K.w0.map Pkx.row),.fs 4 (K.w1.map Pkx.row),.int .i64 K.now]))]),(⟨L+1,100000*(j+1)+64⟩,.rows 28 20 true true [(gR X [])])],100000*(j+1)+20000*(k+1)⟩) (pre:=fun k=>k≤2) (μ:=fun k=>2-k) 0 (by omega) ?_ ?_
   ·exact (so0 hF2 (h1:=by(simp only[hI2,go_sem,zAf,and_self,zW];try trivial)) (h2:=by simp[zAi,Tx.look,q1]))
   intro k hk;by_cases hkt:k<2
   ·have g2:decide ((k:Int)<2)=true:=dT (by omega);obtain ⟨P,hP⟩:=xI2 k hkt;have hCo:=fun F L nx=>zHy (F:=F) (L:=L) (nx:=nx) X P now
    simp only[Gx.row,Ini.row]at hP hCo;obtain ⟨z,hz⟩:∃z,z=100000*(j+1)+20000*(k+1):=⟨_,rfl⟩;have q3:∀i,i<100000→(z=i)=False:=fun i h=>eq_false (by omega)
    have q4:∀a b,a<10000→b<10000→(z+a=100000*(j+1)+b)=False:=fun a b h1 h2=>eq_false (by omega)
    have q5:(z=100000*(j+1))=False:=eq_false (by omega);have q6:∀b,b<10000→(z=100000*(j+1)+b)=False:=fun b h=>eq_false (by omega)
    rw[←hz];have hRi:=fun F L nx=>zDY (F:=F) (L:=L) (nx:=nx) P
    have hTm:=fun F L nx=>zGW (F:=F) (L:=L) (nx:=nx) now
    have hPu:=fun hd F L nx=>zDZ (F:=F) (L:=L) (nx:=nx) P hd
    simp only[Ini.row]at hRi hPu;have e20:((2:Int)==0)=false:=rfl;have e22:((2:Int) !=2)=false:=rfl;have e00:((0:Int)==0)=true:=rfl;have e01:((0:Int) !=0)=false:=rfl;cases hpo:P.ok
    ·rw[hpo]at hRi;have hcv:zFn X P now=([],2):=by unfold zFn zAZ;rw[if_neg (by simp[hok]),if_pos (by simp[hpo])]
     rw[hcv]at hCo;simp only[q3,q4,hP,g2,lI2,q1,zA,go_sem];repeat refine sd2 ?_
     refine CallVC.same (hCo _ _ _) ?_;simp only[q3,q4,zA,go_sem];repeat refine sd2 ?_
     refine CallVC.same (hRi _ _ _) ?_;simp only[e20,e22,zA,go_sem];repeat refine sd2 ?_
     refine ⟨k+1,by omega,by omega,?_⟩;exact (so0 hF2 (h1:=by(simp only[go_sem,zAf,and_self,zY];try trivial)) (h2:=by simp[zAi,Tx.look,q1]) (h4:=by simp only[];omega))
    rw[hpo]at hRi;cases hck:(P.ck== [])
    ·have hcv:zFn X P now=([],2):=by unfold zFn zAZ;rw[if_neg (by simp[hok]),if_pos (by simp[hck])]
     rw[hcv]at hCo;simp only[q3,q4,hP,g2,lI2,q1,zA,go_sem];repeat refine sd2 ?_
     refine CallVC.same (hCo _ _ _) ?_;simp only[q3,q4,zA,go_sem];repeat refine sd2 ?_
     refine CallVC.same (hRi _ _ _) ?_;simp only[hck,e20,e22,q3,q4,zA,go_sem];repeat refine sd2 ?_
     refine ⟨k+1,by omega,by omega,?_⟩;exact (so0 hF2 (h1:=by(simp only[go_sem,zAf,and_self,zY];try trivial)) (h2:=by simp[zAi,Tx.look,q1]) (h4:=by simp only[];omega))
    ·have hck':P.ck=[]:=by simpa using hck
     cases htm:zEg now
     ·rw[htm]at hTm;have hcv:zFn X P now=([],2):=by unfold zFn zAZ;rw[if_neg (by simp[hok]),if_pos (by simp[htm])]
      rw[hcv]at hCo;simp only[q3,q4,hP,g2,lI2,q1,zA,go_sem];repeat refine sd2 ?_
      refine CallVC.same (hCo _ _ _) ?_;simp only[q3,q4,zA,go_sem];repeat refine sd2 ?_
      refine CallVC.same (hRi _ _ _) ?_;simp only[hck,q3,q4,zA,go_sem];repeat refine sd2 ?_
      refine CallVC.same (hTm _ _ _) ?_;simp only[e20,e22,zA,go_sem];repeat refine sd2 ?_
      refine ⟨k+1,by omega,by omega,?_⟩;exact (so0 hF2 (h1:=by(simp only[go_sem,zAf,and_self,zY];try trivial)) (h2:=by simp[zAi,Tx.look,q1]) (h4:=by simp only[];omega))
     ·rw[htm]at hTm;have hPu:=hPu hpo;have hn9:0≤now∧now≤1099511627776:=by simpa[zEg] using htm
      obtain ⟨u,hu⟩:∃u:Nat,now=(u:Int):=⟨now.toNat,by omega⟩;have hcv:zFn X P now=(ckS X P.oct now,0):=by unfold zFn zAZ;rw[if_neg (by simp[hok]),if_neg (by simp[hpo,hck,htm])]
      rw[hcv]at hCo;have hlo:=zEv P;rw[hck',wW]at hlo;have hX9:(0≤X.own.tag∧X.own.tag<4294967296)∧(0≤X.fr∧X.fr≤65535)∧(0≤X.tt∧X.tt≤65535)∧X.sec.length≤64:=by
       have hh:=(zUR X).1 (zUZ hok).1;have hot:=zUh (zBz hh.2.2.2.2.2.1).1;exact ⟨⟨by omega,hot.2⟩,⟨hh.1,hh.2.1⟩,⟨hh.2.2.1,hh.2.2.2.1⟩,by omega⟩
      have hRc:=fun F L nx=>zFr (F:=F) (L:=L) (nx:=nx) X P.oct u (by omega) (by omega) hX9.1 hX9.2.1 hX9.2.2.1 hX9.2.2.2
      rw[←hu]at hRc;simp only[Gx.row]at hRc;simp only[q3,q4,hP,g2,lI2,q1,zA,go_sem];repeat refine sd2 ?_
      refine CallVC.same (hCo _ _ _) ?_;simp only[q3,q4,zA,go_sem];repeat refine sd2 ?_
      refine CallVC.same (hRi _ _ _) ?_;simp only[hck,q3,q4,zA,go_sem];repeat refine sd2 ?_
      refine CallVC.same (hTm _ _ _) ?_;simp only[e00,q3,q4,q1,zA,go_sem];repeat refine sd2 ?_
      refine CallVC.same (hPu _ _ _) ?_;simp only[zA,go_sem];repeat refine sd2 ?_
      refine CallVC.same (hRc _ _ _) ?_;simp only[e01,zA,go_sem];repeat refine sd2 ?_
      refine ⟨zAA (fun x=>x.i) (by simp only[zA0,List.map];kernel_rfl),?_⟩;repeat refine sd2 ?_
      refine ⟨k+1,by omega,by omega,?_⟩;exact (so0 hF2 (h1:=by(simp only[go_sem,zAf,and_self,zY];try trivial)) (h2:=by simp[zAi,Tx.look,q1]) (h4:=by simp only[];omega))
   ·have hk2:k=2:=by omega
    subst hk2;have g2:decide (((2:Nat):Int)<2)=false:=rfl;have g2':decide ((2:Int)<2)=false:=rfl;simp only[g2,zA,go_sem];repeat refine sd2 ?_
    refine ⟨j+1,by omega,by omega,?_⟩;exact (so0 hF2 (h1:=by(simp only[go_sem,zAf,and_self,zY];try trivial)) (h4:=by simp only[];omega))
 ·have hj5:j=5:=by omega
  subst hj5;have g1:decide (((5:Nat):Int)<5)=false:=rfl;have g1':decide ((5:Int)<5)=false:=rfl;simp only[g1,go_sem];repeat refine sd2 ?_
  exact ps0
end Go.Proofs.YtifhjhbfhdcahaaGreat
end
