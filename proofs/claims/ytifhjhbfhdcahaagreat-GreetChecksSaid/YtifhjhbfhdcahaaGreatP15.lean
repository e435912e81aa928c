/- Lemmas for the walk: GK76, GK77, GD35, GK79, GK78, GK80, GK81, GK82, GD36, GK83, GK84. -/
import Derived.Test.YtifhjhbfhdcahaaGreatP14
import Derived.Test.YtifhjhbfhdcahaaGreatP11
import Derived.Test.YtifhjhbfhdcahaaGreatP12
set_option linter.all false
section
namespace Go.Proofs.YtifhjhbfhdcahaaGreat
open Go.Tx
set_option maxRecDepth 100000
set_option maxHeartbeats 16000000
theorem zFk(l:List Nat):nfl (l.map eW)=true:=by
 induction l with
 |nil=>rfl
 |cons a r ih=>rw[zL];simp only[nfl,eW,Tx.nf,zR];exact ih
theorem zHH(a b:List PV):nfl (a++b)=(nfl a&&nfl b):=by
 induction a with
 |nil=>rfl
 |cons x a ih=>rw[zJ];simp only[nfl,ih,Bool.and_assoc]
theorem zQb{F:SF}{L nx:Nat}:Con Tryz.prog 128 [] F L nx nx (.agg (hT.map eW++kT.map eW)) [] []:=by
 have hc:=fun F L nx=>zJI (F:=F) (L:=L) (nx:=nx)
 have l8:(hT.map eW).length=8:=by rw[zG];rfl
 have l64:(kT.map eW).length=64:=by rw[zG];rfl
 have n8:=zFk hT;have n64:=zFk kT;generalize hT.map eW=h at *;generalize kT.map eW=k at *;refine bdy Tryz.f128 ?_;intro F3 hF1 hF2;simp only[Tryz.f128,go_sem];refine CallVC.same (hc _ _ _) ?_;simp only[l8,l64,n8,n64,go_sem];repeat refine sd2 ?_
 generalize hy:([.int .u32 0,.int .u32 0,.int .u32 0,.int .u32 0,.int .u32 0,.int .u32 0,.int .u32 0,.int .u32 0,.int .u32 0,.int .u32 0,.int .u32 0,.int .u32 0,.int .u32 0,.int .u32 0,.int .u32 0,.int .u32 0,.int .u32 0,.int .u32 0,.int .u32 0,.int .u32 0,.int .u32 0,.int .u32 0,.int .u32 0,.int .u32 0,.int .u32 0,.int .u32 0,.int .u32 0,.int .u32 0,.int .u32 0,.int .u32 0,.int .u32 0,.int .u32 0,.int .u32 0,.int .u32 0,.int .u32 0,.int .u32 0,.int .u32 0,.int .u32 0,.int .u32 0,.int .u32 0,.int .u32 0,.int .u32 0,.int .u32 0,.int .u32 0,.int .u32 0,.int .u32 0,.int .u32 0,.int .u32 0,.int .u32 0,.int .u32 0,.int .u32 0,.int .u32 0,.int .u32 0,.int .u32 0,.int .u32 0,.int .u32 0,.int .u32 0,.int .u32 0,.int .u32 0,.int .u32 0,.int .u32 0,.int .u32 0,.int .u32 0,.int .u32 0,.int .u32 0,.int .u32 0,.int .u32 0,.int .u32 0,.int .u32 0,.int .u32 0,.int .u32 0,.int .u32 0]:List PV)=y;have ly:y.length=72:=by rw[←hy];rfl
 generalize hz:([.int .u32 0,.int .u32 0,.int .u32 0,.int .u32 0,.int .u32 0,.int .u32 0,.int .u32 0,.int .u32 0,.int .u32 0,.int .u32 0,.int .u32 0,.int .u32 0,.int .u32 0,.int .u32 0,.int .u32 0,.int .u32 0,.int .u32 0,.int .u32 0,.int .u32 0,.int .u32 0,.int .u32 0,.int .u32 0,.int .u32 0,.int .u32 0,.int .u32 0,.int .u32 0,.int .u32 0,.int .u32 0,.int .u32 0,.int .u32 0,.int .u32 0,.int .u32 0,.int .u32 0,.int .u32 0,.int .u32 0,.int .u32 0,.int .u32 0,.int .u32 0,.int .u32 0,.int .u32 0,.int .u32 0,.int .u32 0,.int .u32 0,.int .u32 0,.int .u32 0,.int .u32 0,.int .u32 0,.int .u32 0,.int .u32 0,.int .u32 0,.int .u32 0,.int .u32 0,.int .u32 0,.int .u32 0,.int .u32 0,.int .u32 0,.int .u32 0,.int .u32 0,.int .u32 0,.int .u32 0,.int .u32 0,.int .u32 0,.int .u32 0,.int .u32 0]:List PV)=z;have lz:z.length=64:=by rw[←hz];rfl
 have e1:List.take 8 (h++z)=h:=by rw[uS (by omega),zQ (by omega)]
 have e2:List.drop 72 (h++z)=[]:=uD (by rw[zU];omega);have e3:(h++k).length=72:=by rw[zU];omega
 have e4:List.drop 72 y=[]:=uD (by omega);have e5:nfl (h++k)=true:=by rw[zHH,n8,n64];rfl
 have e6:List.take 8 (h++k)=h:=by rw[uS (by omega),zQ (by omega)]
 have e7:List.drop 8 (h++k)=k:=by rw[qN (by omega),uD (by omega),zF]
 have e8:List.take 64 k=k:=zQ (by omega);simp only[e1,e2,zK,e3,e4,e5];refine ⟨by rw[zU];omega,trivial,?_⟩;exact ps0 (hf:=by simp[Tx.nf,e5])
theorem zQc{F:SF}{L nx:Nat}(n:Nm)(hn:n.l≤L)(o p:Bool)(l:List (List UInt8))(hl:l.length≤1000000)(hs:∀s∈l,s.length≤4096)(hF:F n=some (.rows 9 1 o p (l.map fun s=>[.str s]))):Con Tryz.prog 127 [.sl n 0 l.length] F L nx nx (.bool false) [] [n]:=by
 refine bdy Tryz.f127 (hrd:=(by simp;omega)) ?_;intro F3 hF1 hF2;simp only[Tryz.f127,go_sem];repeat refine sd2 ?_
 have hFn:F3 n=some (.rows 9 1 o p (l.map fun s=>[.str s])):=(hF1 n (by simp)).trans hF;refine loopK.intro _ _ (I:=fun i:Nat=>⟨[some (.sl n 0 l.length),none,some (.bool false),none,none,some (.sl n 0 l.length),some (.int .i64 l.length),some (.int .i64 i)]++oz 7,[],10000*(i+1)⟩) (pre:=fun i=>i≤l.length) (μ:=fun i=>l.length-i) 0 (by omega) ?_ ?_
 ·refine Sub.of (hfz hF2) (by simp only[go_sem,zAf];try trivial) ?_ (by simp[zAs]) (by simp);simp[zAi]
 intro i hi;by_cases hlt:i<l.length
 ·have g1:decide ((i:Int)<(l.length:Int))=true:=dT (by omega);have hget:((l.map fun s=>[PV.str s]).getD i []).getD 0 (.tup [])= .str l[i]:=by simp[hlt,zE]
  have hll:(l.map fun s=>[PV.str s]).length=l.length:=zG ..;have hsi:=hs l[i] (uH hlt);have g2:decide (((l[i].length:Nat):Int)>4096)=false:=dF (by omega);have g2':decide ((4096:Int)<((l[i].length:Nat):Int))=false:=dF (by omega);simp only[g1,g2,hFn,hget,hll,zA,go_sem];repeat refine sd2 ?_
  refine ⟨i+1,by omega,by omega,?_⟩;refine Sub.of (hfz hF2) (by simp only[go_sem,zAf,and_self,zY];try trivial) ?_ (by simp[zAs]) (by simp only[];omega);simp[zAi]
 ·obtain rfl:i=l.length:=by omega
  have g1:decide ((l.length:Int)<(l.length:Int))=false:=dF (by omega);simp only[g1,zA,go_sem];exact .bool (.inr rfl) rfl rfl (by simp[UpdAll])
theorem zLq{F:SF}{L nx:Nat}(s:List UInt8)(hs:s.length≤1000000):Con Tryz.prog 165 [.str s] F L nx nx (.str s) [] []:=by
 cases s with
 |nil=>
  have e1:(((0:Nat):Int)==0)=true:=rfl;refine bdy Tryz.f165 ?_;intro F3 hF1 hF2;simp only[Tryz.f165,e1,go_sem];repeat refine sd2 ?_
  exact ps0
 | cons a s=>
  have e1:(((a::s).length:Int)==0)=false:=by simp;omega
  have e2:List.take (a::s).length (List.map (fun b:UInt8=>[PV.int .u8 ((b.toNat:Nat):Int)]) (a::s)++List.drop (List.map (fun b:UInt8=>[PV.int .u8 ((b.toNat:Nat):Int)]) (a::s)).length (List.replicate (a::s).length [PV.int .u8 0]))=List.map zBY (a::s):=by
   rw[uD (by simp),zK,zQ (by simp)];rfl
  have e3:=zBK (a::s);refine bdy Tryz.f165 ?_;intro F3 hF1 hF2;have hl:(a::s).length≤1000000:=hs;have h0:0<(a::s).length:=by simp
  generalize (a::s)=s at *;simp only[Tryz.f165,e1,e2,e3,go_sem];repeat refine sd2 ?_
  refine ⟨⟨by simp,by simp⟩,⟨by omega,by omega⟩,⟨by omega,by simp⟩,?_⟩;exact ps0
theorem zNE{F:SF}{L nx:Nat}(s:List UInt8)(hs:s.length≤1000000):Con Tryz.prog 162 [.str s] F L nx nx (.str s) [] []:=by
 have h:=fun F L nx=>zLq (F:=F) (L:=L) (nx:=nx) s hs
 refine bdy Tryz.f162 ?_;intro F3 hF1 hF2;simp only[Tryz.f162,go_sem];refine CallVC.same (h _ _ _) ?_;simp only[go_sem];exact ps0
theorem zNF{F:SF}{L nx:Nat}(s:List UInt8):Con Tryz.prog 163 [.str s] F L nx (nx+1) (.fn (.func 166) [] [.ptr ⟨L,nx⟩ 0 0]) [(⟨L,nx⟩,.rows 9 1 true true [[.str s]])] []:=by
 refine zPU Tryz.f163 ?_;intro F3 hF1 hF2;simp only[Tryz.f163,go_sem];refine .now (PostN.val [0] (.inr rfl) (by simp) (p:=True) (v0:=.fn (.func 166) [] [.ptr ⟨L+1,0⟩ 0 0]) ?_ trivial ?_ ?_ ⟨zH _,?_,trivial⟩ ?_);·simp only[go_sem]
 ·simp[nmA,zDf,Dn]
 ·simp[Tx.rn,Tx.rnL,sg,List.idxOf,List.findIdx,List.findIdx.go]
 ·rw[zDg (by simp)];exact .pure (by simp[Tx.look])
 ·simp[UpdAll,keys]
noncomputable def cxb(L:Nat)(y:YRec):Cx:=⟨Tryz.prog,tys,meths,false,L,none,[y],[],false,[],fun _=>False⟩
theorem zSt(L:Nat)(y:YRec):(cxb L y).Ok:=⟨zFB,zGO,zIS,zIT⟩
def zST(s:List UInt8)(i:Nat):List UInt8:=(s.drop (64*i)).take 64
theorem zLr{F:SF}{L nx:Nat}(s:List UInt8)(hl:s.length≤1000000)(n h:Nm)(hn:n.l≤L)(hnx:n.l<L∨(n.l=L∧n.i<nx))(hh:h.l≤L)(hhx:h.l<L∨(h.l=L∧h.i<nx))(hnh:n≠h)(o:Bool)(hFn:F n=some (.rows 9 1 true true [[.str s]]))
  (eb:TypeId)(wd:Nat)(RB:Nat→List (List PV))(hFh:F h=some (.rows eb wd true true (RB 0)))(rd:List Nm)(hrd:∀m∈rd,m.l≤L∧m≠n∧m≠h)
  (N:Nat)(hN:N=s.length/64)(y:YRec)
  (hy:∀(F3:SF) (i nx3:Nat),i<N→F3 h=some (.rows eb wd true true (RB i))→(∀m∈rd,F3 m=F m)→
   YCon Tryz.prog y [.str (zST s i)] F3 (L+1) nx3 nx3 (.bool true) [(h,.rows eb wd true true (RB (i+1)))] (h::rd)):
  ICon Tryz.prog [y] 166 [.fn (.yield y.l) [] [],.ptr n 0 0] F L nx (nx+0) (.tup []) [(n,.rows 9 1 true true [[.str (s.drop (64*N))]]),(h,.rows eb wd true true (RB N))] (n::h::rd):=by
 refine zU2 (zSt (L+1) y) rfl (fn:=Tryz.f166) (c:=Tryz.f166.body.getD .skip) (by kernel_rfl) (by rfl) (by kernel_rfl) rfl (by intro m hm;simp only[wP]at hm;rcases hm with rfl|rfl|hm;exact hn;exact hh;exact (hrd m hm).1) ?_;intro F3 hF1 hF2;have kn:F3 n=some (.rows 9 1 true true [[.str s]]):=(hF1 n (by simp)).trans hFn;have kh:F3 h=some (.rows eb wd true true (RB 0)):=(hF1 h (by simp)).trans hFh;have n1:∀k,(n=(⟨L+1,k⟩:Nm))=False:=zAI hn;have n2:∀k,((⟨L+1,k⟩:Nm)=n)=False:=zAF hn;have h1:∀k,(h=(⟨L+1,k⟩:Nm))=False:=zAI hh;have h2:∀k,((⟨L+1,k⟩:Nm)=h)=False:=zAF hh;have e1:(n=h)=False:=eq_false hnh;have e2:(h=n)=False:=eq_false (Ne.symm hnh);have e3:∀(m:Nm) (b1 b2:SBlk),m∈rd→Tx.look F3 [(n,b1),(h,b2)] m=F m:=fun m b1 b2 hm=>by
  obtain ⟨_,a,b⟩:=hrd m hm;simp only[Tx.look,if_neg a,if_neg b];exact hF1 m (by simp[hm])
 simp only[Tryz.f166,cxb,go_sem];refine loopK.intro _ _ (I:=fun i:Nat=>⟨[some (.fn (.yield y.l) [] []),some (.ptr n 0 0)]++oz 11,[(n,.rows 9 1 true true [[.str (s.drop (64*i))]]),(h,.rows eb wd true true (RB i))],1000*(i+1)⟩)
  (pre:=fun i=>i≤N) (μ:=fun i=>N-i) 0 (by omega) ?_ ?_
 ·refine Sub.of (hfz hF2) (by simp only[go_sem,zAf,and_self];try trivial) ?_ (by simp[zAs]) (by simp);simp[zAi,Tx.look,kn,kh]
 intro i hi;have hdl:(s.drop (64*i)).length=s.length-64*i:=wU ..;by_cases hlt:i<N
 ·have g1:decide (((s.drop (64*i)).length:Int)≥64)=true:=dT (by omega);have g1':decide ((64:Int)≤((s.drop (64*i)).length:Int))=true:=dT (by omega);have t1:List.take 64 (s.drop (64*i))=zST s i:=rfl;have t2:List.drop 64 (s.drop (64*i))=s.drop (64*(i+1)):=by rw[List.drop_drop];congr 1
  have t3:List.take ((s.drop (64*i)).length-64) (s.drop (64*(i+1)))=s.drop (64*(i+1)):=zQ (by rw[hdl,wU];omega);simp only[g1,t1,e1,zA,go_sem];repeat refine sd2 ?_
  refine YVC.one (hy _ i _ hlt (by simp[e2]) (fun m hm=>e3 m _ _ hm)) ?_;simp only[t2,t3,e1,e2,zA,go_sem];repeat refine sd2 ?_
  refine ⟨i+1,by omega,by omega,?_⟩;refine Sub.of (hfz hF2) (by simp only[go_sem,zAf,and_self];try trivial) ?_ (by simp[zAs,keys]) (by simp only[];omega);simp only[zAi,Tx.look,e1,e2,if_true,if_false,and_true]
 ·obtain rfl:i=N:=by omega
  have g1:decide (((s.drop (64*i)).length:Int)≥64)=false:=dF (by omega);have g1':decide ((64:Int)≤((s.drop (64*i)).length:Int))=false:=dF (by omega);simp only[g1,e1,zA,go_sem];repeat refine sd2 ?_
  refine .now (PostN.val [] (.inl rfl) (by simp) (p:=True) (v0:=.tup []) ?_ trivial ?_ ?_ ⟨hn,?_,hh,?_,trivial⟩ ?_);·simp only[go_sem]
  ·simp[nmA,zDf]
  ·simp[Tx.rn,Tx.rnL]
  ·rw[zCd (hnx.imp id fun h=>.inl h.2)];exact .pure (by simp[Tx.look])
  ·rw[zCd (hhx.imp id fun h=>.inl h.2)];exact .pure (by simp[Tx.look,e2])
  ·simp[UpdAll,keys]
theorem zFG(b:List UInt8):∀t,(wS b t).length=t
 |0=>rfl
 |t+1=>by rw[wS,zU,zFG b t];rfl
theorem zEi(b:List UInt8){i:Nat}:∀{t:Nat},i<t→(wS b t).getD i 0=(wS b (i+1)).getD i 0
 |t+1,h=>by
  by_cases e:i=t;·rw[e]
  ·rw[←zEi b (show i<t by omega),wS,zE,zE,wO (by rw[zFG];omega),←zE]
theorem zR1(b:List UInt8){n t:Nat}(ht:t<n):(wS b n).getD t 0=if t<16 then zBW ((b.drop (4*t)).take 4) else ((wS b n).getD (t-16) 0+(wS b n).getD (t-7) 0+sg0 ((wS b n).getD (t-15) 0)+sg1 ((wS b n).getD (t-2) 0))%M32:=by
 have hl:(wS b (t+1)).getD t 0=if t<16 then zBW ((b.drop (4*t)).take 4) else ((wS b t).getD (t-16) 0+(wS b t).getD (t-7) 0+sg0 ((wS b t).getD (t-15) 0)+sg1 ((wS b t).getD (t-2) 0))%M32:=by
  rw[wS,zE,wZ (by rw[zFG];omega),zFG,Nat.sub_self];rfl
 rw[zEi b ht,hl];by_cases h:t<16;·rw[if_pos h,if_pos h]
 ·rw[if_neg h,if_neg h];rw[zEi b (i:=t-16) (t:=n) (by omega),zEi b (i:=t-7) (t:=n) (by omega),zEi b (i:=t-15) (t:=n) (by omega),zEi b (i:=t-2) (t:=n) (by omega),
   zEi b (i:=t-16) (t:=t) (by omega),zEi b (i:=t-7) (t:=t) (by omega),zEi b (i:=t-15) (t:=t) (by omega),zEi b (i:=t-2) (t:=t) (by omega)]
theorem zNG(b:List UInt8)(n i:Nat):(wS b n).getD i 0<M32:=by
 by_cases h:i<n
 ·rw[zR1 b h];split
  ·have:=zIW ((b.drop (4*i)).take 4);have h4:((b.drop (4*i)).take 4).length≤4:=by rw[wI];omega
   exact vD this (vP (uI (by omega) h4) (by decide))
  ·exact vE _ (by decide)
 ·rw[zE,uA (by rw[zFG];omega)];decide
def W8(l:List Nat):Prop:=l.length=8∧∀i,l.getD i 0<M32
theorem W8.cons{a b c d e f g h:Nat}(ha:a<M32)(hb:b<M32)(hc:c<M32)(hd:d<M32)(he:e<M32)(hf:f<M32)(hg:g<M32)(hh:h<M32):W8 [a,b,c,d,e,f,g,h]:=by
 refine ⟨rfl,fun i=>?_⟩;rcases i with _|_|_|_|_|_|_|_|i;all_goals simp only[qT,uF,List.getD_nil]
 all_goals first|assumption|decide
theorem zEL(x:Nat):x%M32<M32:=vE _ (by decide)
theorem zSu{v:List Nat}(h:W8 v)(k w:Nat):W8 (rdS v k w):=W8.cons (zEL _) (h.2 0) (h.2 1) (h.2 2) (zEL _) (h.2 4) (h.2 5) (h.2 6)
theorem zKw{h:List Nat}(h8:W8 h)(k w:List Nat):∀t,W8 (zIq k w h t)
 |0=>h8
 |t+1=>zSu (zKw h8 k w t) _ _
theorem zR2(h v:List Nat):W8 (zL6 h v):=by
 refine ⟨by simp[zL6],fun i=>?_⟩;by_cases hi:i<8
 ·simp only[zL6,zE,wE,qF hi,wJ,vT];exact vE _ (by decide)
 ·rw[zE,uA (by simp[zL6];omega)];decide
theorem zD2{h:List Nat}(h8:W8 h)(k:List Nat)(s:List UInt8):∀i,W8 (zBO k h s i)
 |0=>h8
 |_+1=>zR2 _ _
theorem xS{x y z:Nat}(hx:x<M32)(hy:y<M32)(hz:z<M32):Sx.zFU .xor .u32 (Sx.zFU .xor .u32 (x:Int) (y:Int)) (z:Int)=((x ^^^ y ^^^ z:Nat):Int):=by
 rw[zKu hx hy,zKu (Nat.xor_lt_two_pow (n:=32) hx hy) hz]
theorem zUL{a:Nat}(ha:a<M32):Sx.zFU .xor .u32 (if IntKind.u32.signed=true then -1 else IntKind.u32.max) (a:Int)=((M32-1-a:Nat):Int):=by
 have h1:(if IntKind.u32.signed=true then (-1:Int) else IntKind.u32.max)=((4294967295:Nat):Int):=rfl;rw[h1,zKu (by omega) ha];congr 1;apply Nat.eq_of_testBit_eq;intro i;rw[Nat.testBit_xor,show (4294967295:Nat)=2^32-1 from rfl,Nat.testBit_two_pow_sub_one,show M32-1-a=2^32-(a+1) by simp only[M32]at ha ⊢;omega,Nat.testBit_two_pow_sub_succ (show a<2^32 from ha)];by_cases hi:i<32;·simp[hi]
 ·have:a.testBit i=false:=Nat.testBit_lt_two_pow (vD (show a<2^32 from ha) (uI (by omega) (by omega)));simp[hi,this]
theorem zJJ{a b:Nat}(ha:a<M32):(a &&& b)<M32:=qA Nat.and_le_left ha
theorem zSv(a7 k w:Nat){a4 a5 a6:Nat}(h4:a4<M32)(h5:a5<M32)(h6:a6<M32):IntKind.u32.wrap (IntKind.u32.wrap (IntKind.u32.wrap (IntKind.u32.wrap ((a7:Int)+Sx.zFU .xor .u32 (Sx.zFU .xor .u32 (rtr a4 6:Int) (rtr a4 11:Int)) (rtr a4 25:Int))+Sx.zFU .xor .u32 (Sx.zFU .and .u32 (a4:Int) (a5:Int)) (Sx.zFU .and .u32 (Sx.zFU .xor .u32 (if IntKind.u32.signed=true then -1 else IntKind.u32.max) (a4:Int)) (a6:Int)))+(k:Int))+(w:Int))=(((a7+bg1 a4+chS a4 a5 a6+k+w)%M32:Nat):Int):=by
 have hn:M32-1-a4<M32:=by simp only[M32]at h4 ⊢;omega
 rw[zUL h4,xS (zD0 h4) (zD0 h4) (zD0 h4),zM7 h4 h5,zM7 hn h6,zKu (zJJ h4) (zJJ hn)];rw[←vB,zKH,←vB,zKH,←vB,zKH,←vB,zKH];have e1:rtr a4 6 ^^^ rtr a4 11 ^^^ rtr a4 25=bg1 a4:=rfl;have e2:(a4 &&& a5) ^^^ ((M32-1-a4) &&& a6)=chS a4 a5 a6:=rfl;rw[e1,e2,show M32=2^32 from rfl];generalize bg1 a4=p;generalize chS a4 a5 a6=q;omega
theorem two32{a0 a1 a2:Nat}(h0:a0<M32)(h1:a1<M32)(h2:a2<M32):IntKind.u32.wrap (Sx.zFU .xor .u32 (Sx.zFU .xor .u32 (rtr a0 2:Int) (rtr a0 13:Int)) (rtr a0 22:Int)+Sx.zFU .xor .u32 (Sx.zFU .xor .u32 (Sx.zFU .and .u32 (a0:Int) (a1:Int)) (Sx.zFU .and .u32 (a0:Int) (a2:Int))) (Sx.zFU .and .u32 (a1:Int) (a2:Int)))=(((bg0 a0+mjS a0 a1 a2)%M32:Nat):Int):=by
 rw[xS (zD0 h0) (zD0 h0) (zD0 h0),zM7 h0 h1,zM7 h0 h2,zM7 h1 h2,xS (zJJ h0) (zJJ h0) (zJJ h1)];rw[←vB,zKH];have e1:rtr a0 2 ^^^ rtr a0 13 ^^^ rtr a0 22=bg0 a0:=rfl;have e2:(a0 &&& a1) ^^^ (a0 &&& a2) ^^^ (a1 &&& a2)=mjS a0 a1 a2:=rfl;rw[e1,e2,show M32=2^32 from rfl]
theorem zSw(a b:Nat):IntKind.u32.wrap ((a:Int)+(b:Int))=(((a+b)%M32:Nat):Int):=by
 rw[←vB,zKH,show M32=2^32 from rfl]
def zCk(v:List Nat)(tl:List UInt8)(n:Int):List PV:=v.map eW++[.str tl,.int .i64 n]
noncomputable def cxm(L l:Nat):Cx:=⟨Tryz.prog,tys,meths,false,L,some l,[],[],false,[],fun _=>False⟩
theorem zSx(L l:Nat):(cxm L l).Ok:=⟨zFB,zGO,zIS,zIT⟩
theorem be4(c0 c1 c2 c3:UInt8):Sx.zFU .or .u32 (Sx.zFU .or .u32 (Sx.zFU .or .u32 (IntKind.u32.wrap (IntKind.u32.wrap (c0.toNat:Int)*2^min 24 32)) (IntKind.u32.wrap (IntKind.u32.wrap (c1.toNat:Int)*2^min 16 32))) (IntKind.u32.wrap (IntKind.u32.wrap (c2.toNat:Int)*2^min 8 32))) (IntKind.u32.wrap (c3.toNat:Int))=((zBW [c0,c1,c2,c3]:Nat):Int):=by
 have h0:=c0.toNat_lt;have h1:=c1.toNat_lt;have h2:=c2.toNat_lt;have h3:=c3.toNat_lt;have hg:zBW [c0,c1,c2,c3]=((c0.toNat*256+c1.toNat)*256+c2.toNat)*256+c3.toNat:=by simp[zBW]
 rw[hg];generalize c0.toNat=a at *;generalize c1.toNat=b at *;generalize c2.toNat=c at *;generalize c3.toNat=d at *;have w:∀x k:Nat,x<256→k≤24→IntKind.u32.wrap (IntKind.u32.wrap (x:Int)*2^min k 32)=((x*2^k:Nat):Int):=fun x k hx hk=>by
  have hp:2^k≤2^24:=uI (by omega) hk;have hxk:x*2^k<2^32:=qA (uV (show x≤255 by omega) hp) (by omega);rw[zKH,wD (by omega),uN (by omega)];have:((x:Int)*2^k)=((x*2^k:Nat):Int):=by simp
  rw[this,zKH,wD hxk]
 have w3:IntKind.u32.wrap (d:Int)=(d:Int):=by rw[zKH,wD (by omega)]
 rw[w a 24 h0 (by omega),w b 16 h1 (by omega),w c 8 h2 (by omega),w3];have o1:a*2^24 ||| b*2^16=(a*256+b)*2^16:=by
  rw[vL a,←Nat.two_pow_add_eq_or_of_lt (show b*2^16<2^24 by omega)];omega
 have o2:(a*256+b)*2^16 ||| c*2^8=((a*256+b)*256+c)*2^8:=by
  rw[vL _ (2^16),←Nat.two_pow_add_eq_or_of_lt (show c*2^8<2^16 by omega)];omega
 have o3:((a*256+b)*256+c)*2^8 ||| d=((a*256+b)*256+c)*256+d:=by
  rw[vL _ (2^8),←Nat.two_pow_add_eq_or_of_lt (show d<2^8 by omega)];try omega
 rw[zSQ (by omega) (by omega),o1,zSQ (by omega) (by omega),o2,zSQ (by omega) (by omega),o3]
theorem zJK(l:List Nat)(N n i:Nat)(d:PV)(hi:i<n)(hN:i<N):(wA l N n).getD i d= .int .u32 ((l.getD i 0:Nat):Int):=by
 rw[zE,wA,wE,qF hN];simp[hi]
theorem w16(a b:Nat){x y:Nat}(hx:x<M32)(hy:y<M32):IntKind.u32.wrap (IntKind.u32.wrap (IntKind.u32.wrap ((a:Int)+(b:Int))+Sx.zFU .xor .u32 (Sx.zFU .xor .u32 (rtr x 7:Int) (rtr x 18:Int)) ((x:Int).fdiv (2^min 3 32)))+Sx.zFU .xor .u32 (Sx.zFU .xor .u32 (rtr y 17:Int) (rtr y 19:Int)) ((y:Int).fdiv (2^min 10 32)))=(((a+b+sg0 x+sg1 y)%M32:Nat):Int):=by
 rw[zHw x 3 (by omega),zHw y 10 (by omega),xS (zD0 hx) (zD0 hx) (qA (qC _ _) hx),xS (zD0 hy) (zD0 hy) (qA (qC _ _) hy)];rw[←vB,zKH,←vB,zKH,←vB,zKH];show (((((a+b)%2^32+sg0 x)%2^32+sg1 y)%2^32:Nat):Int)=_;rw[show M32=2^32 from rfl];generalize sg0 x=p;generalize sg1 y=q;omega
theorem W8.nth{l:List Nat}(h:W8 l):∃a0 a1 a2 a3 a4 a5 a6 a7,l=[a0,a1,a2,a3,a4,a5,a6,a7]:=by
 match l,h.1 with
 | [a0,a1,a2,a3,a4,a5,a6,a7],_=>exact ⟨a0,a1,a2,a3,a4,a5,a6,a7,rfl⟩
theorem zNH(l:List Nat)(i:Nat)(d:PV)(hi:i<l.length):(l.map eW).getD i d= .int .u32 ((l.getD i 0:Nat):Int):=by
 simp[zE,hi,eW]
def adP(h v:List Nat)(i:Nat):List Nat:=(List.range 8).map fun j=>if j<i then (h.getD j 0+v.getD j 0)%M32 else h.getD j 0
theorem zEs(h v:List Nat)(i:Nat):(adP h v i).length=8:=by simp[adP]
theorem zQd(h v:List Nat){i j:Nat}(hj:j<8):(adP h v i).getD j 0=if j<i then (h.getD j 0+v.getD j 0)%M32 else h.getD j 0:=by
 rw[zE,adP,wE,qF hj];rfl
theorem zOw{h:List Nat}(h8:h.length=8)(v:List Nat):adP h v 0=h:=by
 apply uQ (by rw[zEs,h8]);intro i h1 h2;simp[adP,zE,h2]
theorem zQe(h v:List Nat):adP h v 8=zL6 h v:=by
 unfold adP zL6;apply List.map_congr_left;intro j hj;rw[if_pos (List.mem_range.1 hj)]
theorem zOx{l:List Nat}(hl:l.length=8)(tl:List UInt8)(n:Int){j:Nat}(hj:j<8)(d:PV):(zCk l tl n).getD j d= .int .u32 ((l.getD j 0:Nat):Int):=by
 simp only[zCk,zE];rw[wO (by rw[zG];omega)];simp[show j<l.length by omega,eW]
theorem zOy(h v:List Nat)(tl:List UInt8)(n:Int){j:Nat}(hj:j<8):List.take j (zCk (adP h v j) tl n)++[.int .u32 (((h.getD j 0+v.getD j 0)%M32:Nat):Int)]++List.drop (j+1) (zCk (adP h v j) tl n)=zCk (adP h v (j+1)) tl n:=by
 have hs:(zCk (adP h v j) tl n).set j (eW ((h.getD j 0+v.getD j 0)%M32))=zCk (adP h v (j+1)) tl n:=by
  unfold zCk;rw[List.set_append_left _ _ (by rw[zG,zEs];exact hj),←List.map_set];congr 2;apply uQ (by rw[List.length_set,zEs,zEs]);intro i h1 h2;rw[List.getElem_set];simp only[adP,qE,List.getElem_range];by_cases e:j=i;·subst e;rw[if_pos rfl,if_pos (by omega)]
  ·rw[if_neg e];have:(i<j)=(i<j+1):=by apply propext;omega
   simp only[this]
 rw[←hs,List.set_eq_take_append_cons_drop,if_pos (by simp[zCk,zEs];omega)];simp[eW]
theorem zPe{F:SF}{L nx:Nat}(h:Nm)(hh:h.l≤L)(v k:List Nat)(hv:W8 v)(hk:k.length=64)(hk2:∀i,k.getD i 0<M32)(s:List UInt8)(hl:s.length≤1000000)(tl:List UInt8)(n:Int)(hF:F h=some (.rows 247 10 true true [zCk v tl n])):
  Con Tryz.prog 161 [.ptr h 0 0,.str s,.agg (k.map eW)] F L nx nx (.tup []) [(h,.rows 247 10 true true [zCk (zBO k v s (s.length/64)) tl n])] [h]:=by
 have hkm:(k.map eW).length=64:=by rw[zG,hk]
 have hkn:=zFk k;obtain ⟨kk,hkk⟩:∃kk,kk=k.map eW:=⟨_,rfl⟩;rw[←hkk]at hkm hkn ⊢;have hb:=fun F L nx=>zNF (F:=F) (L:=L) (nx:=nx) s
 refine bdy Tryz.f161 (hrd:=(by simp;omega)) ?_;intro F3 hF1 hF2;have kh:F3 h=some (.rows 247 10 true true [zCk v tl n]):=(hF1 h (by simp)).trans hF;have h1:∀k,(h=(⟨L+1,k⟩:Nm))=False:=zAI hh;have h2:∀k,((⟨L+1,k⟩:Nm)=h)=False:=zAF hh;simp only[Tryz.f161,hkm,hkn,go_sem];refine CallVC.same (hb _ _ _) ?_;simp only[go_sem];obtain ⟨N,hN⟩:∃N,N=s.length/64:=⟨_,rfl⟩;rw[←hN]
 refine rangeK.intro (v:=.tup []) (top:=97) (rd:=[⟨L+1,96⟩,h,⟨L+1,0⟩,⟨L+1,32⟩]) (upd:=[(⟨L+1,96⟩,.rows 9 1 true true [[.str (s.drop (64*N))]]),(h,.rows 247 10 true true [zCk (zBO k v s N) tl n])]) (f:=166) (fl:=[]) (cl:=[.ptr ⟨L+1,96⟩ 0 0]) (by simp only[zAu,qT,uF]) rfl ⟨Tryz.f166,by kernel_rfl,by rfl,by kernel_rfl⟩ [none,none,none,some (.ptr ⟨L+1,0⟩ 0 0),none,some (.ptr ⟨L+1,32⟩ 0 0),none,none,none,none,none,none,none,none,none,none,none,none,none,none,none,none,none,none,none,none,none,none,none,none,none,none,none,none,none,none,none,none,none,none,none,none,none,none,none,none,none,none,none,none,none,none,none,none,none,none,none,none,none,none,none,none,none,none,none,none,none,none,none,none,none,none,none,none,none,none,none,none,none,none,none,none,none,none,none,none,none,none,none,none,none,none,none,none,none,none,none,none,none,none,none,none,none,none,none,none,none,none,none,none,none,none,none,none,none,none,none,none,none,none,none,none,none,none,none,none,none,none,none,none,none,none,none,none,none,none,none,none,none,none,none,none,none,none,none,none,none,none,none,none,none,none,none,none,none,none,none,none,none,none,none,none,none,none,none,none,none,none,none,none,none,none,none,none,none,none,none,none,none,none,none,none,none,none,none,none,none,none,none,none,none,none,none,none,none,none,none,none] ?_ ?_ ?_
 ·simp only[go_sem,zAf,and_self]
 ·intro y y1 y2 y3 y4;refine zLr (L:=L+1) (nx:=97) s hl ⟨L+1,96⟩ h (by simp) (.inr ⟨rfl,by simp⟩) (by omega) (.inl (by omega)) (by simp[h2]) true (by simp[Tx.look]) 247 10 (fun i=>[zCk (zBO k v s i) tl n]) (by simp[Tx.look,h1,kh];rfl) [⟨L+1,0⟩,⟨L+1,32⟩] (by intro m hm;simp only[wP,uC,or_false]at hm;rcases hm with rfl|rfl<;>simp[h2]) N hN y ?_;intro F4 i nx3 hi hFh hFr;have r0:=hFr ⟨L+1,0⟩ (by simp);have r1:=hFr ⟨L+1,32⟩ (by simp);simp only[Tx.look,if_true,if_false,Nm.mk.injEq,true_and,Nat.reduceEqDiff]at r0 r1;have hw8:=zD2 hv k s i;obtain ⟨u,hu⟩:∃u,u=zBO k v s i:=⟨_,rfl⟩;obtain ⟨b,hb⟩:∃b,b=zST s i:=⟨_,rfl⟩;have hm1:zBO k v s (i+1)=zRD k u b:=by rw[hu,hb];rfl
  have hbl:b.length=64:=by rw[hb,zST,wI,wU];omega
  rw[hm1,←hb];rw[←hu]at hw8 hFh;refine YCon.body (zSx (L+3) y.l) (by rfl) (by rfl) (k:=0) (by rfl) (by simp;omega) (by rw[y1];rfl) (by rw[y1,y4];simp) ?_;intro F5 hF5 hF6;have q1:=(hF5 h (by simp)).trans hFh;have q2:=(hF5 ⟨L+1,0⟩ (by simp)).trans r0;have q3:=(hF5 ⟨L+1,32⟩ (by simp)).trans r1;have z1:∀k,((⟨L+2+1,k⟩:Nm)=h)=False:=fun k=>zAF (by omega) k
  have z2:∀k,(h=(⟨L+2+1,k⟩:Nm))=False:=fun k=>zAI (by omega) k
  have z3:∀k j,((⟨L+2+1,k⟩:Nm)=⟨L+1,j⟩)=False:=fun k j=>by simp
  have z4:∀k j,((⟨L+1,j⟩:Nm)=⟨L+2+1,k⟩)=False:=fun k j=>by simp
  rw[y1,y2,y3,y4];simp only[setPs,List.zip_cons_cons,List.zip_nil_right,cxm,zA,go_sem];refine loopK.intro _ _ (I:=fun t:Nat=>⟨[none,none,none,some (.ptr ⟨L+1,0⟩ 0 0),none,some (.ptr ⟨L+1,32⟩ 0 0),some (.str b),some (.ptr ⟨L+2+1,32⟩ 0 0)]++oz 14++[some (.int .i64 t)]++oz 175,[(⟨L+2+1,32⟩,.rows 220 64 true true [wA (wS b 64) 64 t])],10000*(t+1)⟩)
   (pre:=fun t=>t≤64) (μ:=fun t=>64-t) 0 (by omega) ?_ ?_
  ·refine Sub.of (fun n hn=>hF6 n (by have:n.l=L+2+1:=hn;omega)) (by simp only[go_sem,zAf];try trivial) ?_ (by simp[zAs,keys]) (by simp);simp only[zAi,Tx.look,zND,List.replicate,and_true,zA,go_sem];try simp
  intro t ht;have lw:=zF4 (wS b 64) 64 t;by_cases hlt:t<64
  ·have f1:decide ((t:Int)<64)=true:=dT (by omega);have hat:=zR1 b (n:=64) hlt;by_cases h16:t<16
   ·have f2:decide ((t:Int)<16)=true:=dT (by omega);rw[if_pos h16]at hat;obtain ⟨c0,c1,c2,c3,hc⟩:∃c0 c1 c2 c3,(b.drop (4*t)).take 4=[c0,c1,c2,c3]:=by
     have hl4:((b.drop (4*t)).take 4).length=4:=by rw[wI,wU];omega
     match (b.drop (4*t)).take 4,hl4 with
     | [c0,c1,c2,c3],_=>exact ⟨c0,c1,c2,c3,rfl⟩
    have e1:(4*(t:Int))=((4*t:Nat):Int):=by omega
    have e2:(((4*t:Nat):Int)+4)=((4*t+4:Nat):Int):=by omega
    have e3:4*t+4-4*t=4:=by omega
    simp only[f1,f2,e1,e2,e3,hc,q1,q2,z2,z4,kS2,zA,go_sem];repeat refine sd2 ?_
    refine ⟨zAA (fun x=>x.i) (by kernel_rfl),⟨by omega,by omega⟩,?_⟩;refine ⟨t+1,by omega,by omega,?_⟩;refine Sub.of (fun n hn=>hF6 n (by have:n.l=L+2+1:=hn;omega)) (by simp only[go_sem,zAf,and_self,zY];try trivial) ?_ (by simp[zAs,keys]) (by simp only[];omega);have hw:=zKv (wS b 64) 64 t _ hlt (hat.trans (by rw[hc])).symm;simp only[zAi,Tx.look,be4,wG,hw,if_true,and_true]
   ·have f2:decide ((t:Int)<16)=false:=dF (by omega);rw[if_neg h16]at hat;have a1:((t:Int)-15)=((t-15:Nat):Int):=by omega
    have a2:((t:Int)-2)=((t-2:Nat):Int):=by omega
    have a3:((t:Int)-16)=((t-16:Nat):Int):=by omega
    have a4:((t:Int)-7)=((t-7:Nat):Int):=by omega
    have g1:=fun d=>zJK (wS b 64) 64 t (t-15) d (by omega) (by omega)
    have g2:=fun d=>zJK (wS b 64) 64 t (t-2) d (by omega) (by omega)
    have g3:=fun d=>zJK (wS b 64) 64 t (t-16) d (by omega) (by omega)
    have g4:=fun d=>zJK (wS b 64) 64 t (t-7) d (by omega) (by omega)
    have l1:=zNG b 64 (t-15);have l2:=zNG b 64 (t-2);obtain ⟨x15,h15⟩:∃x,x=(wS b 64).getD (t-15) 0:=⟨_,rfl⟩;obtain ⟨x2,h2'⟩:∃x,x=(wS b 64).getD (t-2) 0:=⟨_,rfl⟩;obtain ⟨x16,h16'⟩:∃x,x=(wS b 64).getD (t-16) 0:=⟨_,rfl⟩;obtain ⟨x7,h7'⟩:∃x,x=(wS b 64).getD (t-7) 0:=⟨_,rfl⟩;rw[←h15]at hat l1 g1;rw[←h2']at hat l2 g2;rw[←h16']at hat g3;rw[←h7']at hat g4;have p1:∀F L nx,Con Tryz.prog 164 [.int .u32 x15,.int .i64 (-7)] F L nx nx (.int .u32 (rtr x15 7)) [] []:=fun F L nx=>zCG x15 7 l1 (by omega) (by omega)
    have p2:∀F L nx,Con Tryz.prog 164 [.int .u32 x15,.int .i64 (-18)] F L nx nx (.int .u32 (rtr x15 18)) [] []:=fun F L nx=>zCG x15 18 l1 (by omega) (by omega)
    have p3:∀F L nx,Con Tryz.prog 164 [.int .u32 x2,.int .i64 (-17)] F L nx nx (.int .u32 (rtr x2 17)) [] []:=fun F L nx=>zCG x2 17 l2 (by omega) (by omega)
    have p4:∀F L nx,Con Tryz.prog 164 [.int .u32 x2,.int .i64 (-19)] F L nx nx (.int .u32 (rtr x2 19)) [] []:=fun F L nx=>zCG x2 19 l2 (by omega) (by omega)
    simp only[f1,f2,a1,a2,a3,a4,g1,g2,g3,g4,wG,zA,go_sem];repeat refine sd2 ?_
    refine ⟨zAA (fun x=>x.i) (by kernel_rfl),?_⟩;repeat refine sd2 ?_
    refine CallVC.same (p1 _ _ _) ?_;simp only[zA,go_sem];repeat refine sd2 ?_
    refine CallVC.same (p2 _ _ _) ?_;simp only[zA,go_sem];repeat refine sd2 ?_
    refine CallVC.same (p3 _ _ _) ?_;simp only[zA,go_sem];repeat refine sd2 ?_
    refine CallVC.same (p4 _ _ _) ?_;simp only[wG,zA,go_sem];repeat refine sd2 ?_
    refine ⟨zAA (fun x=>x.i) (by kernel_rfl),⟨by omega,by omega⟩,?_⟩;refine ⟨t+1,by omega,by omega,?_⟩;refine Sub.of (fun n hn=>hF6 n (by have:n.l=L+2+1:=hn;omega)) (by simp only[go_sem,zAf,and_self,zY];try trivial) ?_ (by simp[zAs,keys]) (by simp only[];omega);have hw:=zKv (wS b 64) 64 t _ hlt hat.symm;have hv16:=w16 x16 x7 l1 l2;simp only[zAi,Tx.look,hv16,hw,if_true,and_true]
  ·obtain rfl:t=64:=by omega
   have f1:decide (((64:Nat):Int)<64)=false:=dF (by omega);have hu8:(u.map eW).length=8:=by rw[zG];exact hw8.1
   have hun:=zFk u;have hrow:zCk u tl n=u.map eW++[.str tl,.int .i64 n]:=rfl;have ht8:List.take 8 (zCk u tl n)=u.map eW:=by rw[hrow,uS (by omega),zQ (by omega)]
   have hrl:(zCk u tl n).length=10:=by rw[hrow,zU,hu8];rfl
   simp only[f1,ht8,hu8,hun,q1,q2,z2,z4,zA,go_sem];repeat refine sd2 ?_
   obtain ⟨w,hw⟩:∃w,w=wS b 64:=⟨_,rfl⟩;have hwl:∀i,w.getD i 0<M32:=fun i=>by rw[hw];exact zNG b 64 i
   have hmx:zRD k u b=zL6 u (zIq k w u 64):=by rw[hw];rfl
   rw[←hw,hmx];rw[←hw]at lw;refine loopK.intro _ _ (I:=fun r:Nat=>⟨[none,none,none,some (.ptr ⟨L+1,0⟩ 0 0),none,some (.ptr ⟨L+1,32⟩ 0 0),none,some (.ptr ⟨L+2+1,32⟩ 0 0),none,none,none,none,some (.ptr ⟨L+2+1,650192⟩ 0 0)]++oz 84++[some (.int .i64 r)]++oz 100,[(⟨L+2+1,32⟩,.rows 220 64 true true [wA w 64 64]),(⟨L+2+1,650192⟩,.rows 219 8 true true [(zIq k w u r).map eW])],10000*(100+r+1)⟩)
    (pre:=fun r=>r≤64) (μ:=fun r=>64-r) 0 (by omega) ?_ ?_
   ·refine Sub.of (fun n hn=>hF6 n (by have:n.l=L+2+1:=hn;omega)) (by simp only[go_sem,zAf];try trivial) ?_ (by simp[zAs,keys]) (by simp);simp[zAi,Tx.look,zIq]
   intro r hr;have hr8:=zKw hw8 k w r;obtain ⟨x,hx⟩:∃x,x=zIq k w u r:=⟨_,rfl⟩;by_cases hr64:r<64
   ·have f3:decide ((r:Int)<64)=true:=dT (by omega);have hx1:zIq k w u (r+1)=rdS x (k.getD r 0) (w.getD r 0):=by rw[hx];rfl
    rw[←hx]at hr8 ⊢;obtain ⟨a0,a1,a2,a3,a4,a5,a6,a7,rfl⟩:=hr8.nth;have b0:a0<M32:=hr8.2 0;have b1:a1<M32:=hr8.2 1;have b2:a2<M32:=hr8.2 2;have b4:a4<M32:=hr8.2 4;have b5:a5<M32:=hr8.2 5;have b6:a6<M32:=hr8.2 6;have gk:∀d,kk.getD r d= .int .u32 ((k.getD r 0:Nat):Int):=fun d=>by rw[hkk];exact zNH k r d (by omega)
    have gw:∀d,(wA w 64 64).getD r d= .int .u32 ((w.getD r 0:Nat):Int):=fun d=>zJK w 64 64 r d hr64 hr64
    have p1:∀F L nx,Con Tryz.prog 164 [.int .u32 a4,.int .i64 (-6)] F L nx nx (.int .u32 (rtr a4 6)) [] []:=fun F L nx=>zCG a4 6 b4 (by omega) (by omega)
    have p2:∀F L nx,Con Tryz.prog 164 [.int .u32 a4,.int .i64 (-11)] F L nx nx (.int .u32 (rtr a4 11)) [] []:=fun F L nx=>zCG a4 11 b4 (by omega) (by omega)
    have p3:∀F L nx,Con Tryz.prog 164 [.int .u32 a4,.int .i64 (-25)] F L nx nx (.int .u32 (rtr a4 25)) [] []:=fun F L nx=>zCG a4 25 b4 (by omega) (by omega)
    have p4:∀F L nx,Con Tryz.prog 164 [.int .u32 a0,.int .i64 (-2)] F L nx nx (.int .u32 (rtr a0 2)) [] []:=fun F L nx=>zCG a0 2 b0 (by omega) (by omega)
    have p5:∀F L nx,Con Tryz.prog 164 [.int .u32 a0,.int .i64 (-13)] F L nx nx (.int .u32 (rtr a0 13)) [] []:=fun F L nx=>zCG a0 13 b0 (by omega) (by omega)
    have p6:∀F L nx,Con Tryz.prog 164 [.int .u32 a0,.int .i64 (-22)] F L nx nx (.int .u32 (rtr a0 22)) [] []:=fun F L nx=>zCG a0 22 b0 (by omega) (by omega)
    simp only[f3,eW,wG,zA,go_sem];repeat refine sd2 ?_
    refine ⟨zAA (fun x=>x.i) (by kernel_rfl),?_⟩;repeat refine sd2 ?_
    refine CallVC.same (p1 _ _ _) ?_;simp only[zA,go_sem];repeat refine sd2 ?_
    refine CallVC.same (p2 _ _ _) ?_;simp only[zA,go_sem];repeat refine sd2 ?_
    refine CallVC.same (p3 _ _ _) ?_;simp only[gk,gw,wG,q3,z4,zA,go_sem];repeat refine sd2 ?_
    try refine ⟨zAA (fun x=>x.i) (by kernel_rfl),?_⟩
    repeat refine sd2 ?_
    refine CallVC.same (p4 _ _ _) ?_;simp only[zA,go_sem];repeat refine sd2 ?_
    refine CallVC.same (p5 _ _ _) ?_;simp only[zA,go_sem];repeat refine sd2 ?_
    refine CallVC.same (p6 _ _ _) ?_;simp only[wG,zA,go_sem];repeat refine sd2 ?_
    refine ⟨zAA (fun x=>x.i) (by kernel_rfl),⟨by omega,by omega⟩,⟨by omega,by omega⟩,⟨by omega,by omega⟩,⟨by omega,by omega⟩,⟨by omega,by omega⟩,⟨by omega,by omega⟩,⟨by omega,by omega⟩,⟨by omega,by omega⟩,?_⟩;have o1:=zSv a7 (k.getD r 0) (w.getD r 0) b4 b5 b6;have o2:=two32 b0 b1 b2;have hx2:(zIq k w u (r+1)).map eW=[.int .u32 ((((a7+bg1 a4+chS a4 a5 a6+k.getD r 0+w.getD r 0)%M32+(bg0 a0+mjS a0 a1 a2)%M32)%M32:Nat):Int),.int .u32 a0,.int .u32 a1,.int .u32 a2,.int .u32 (((a3+(a7+bg1 a4+chS a4 a5 a6+k.getD r 0+w.getD r 0)%M32)%M32:Nat):Int),.int .u32 a4,.int .u32 a5,.int .u32 a6]:=by
     rw[hx1];simp only[rdS,qT,uF,zL,wM,eW]
    refine ⟨r+1,by omega,by omega,?_⟩;refine Sub.of (fun n hn=>hF6 n (by have:n.l=L+2+1:=hn;omega)) (by simp only[go_sem,zAf,and_self,zY];try trivial) ?_ (by simp[zAs,keys]) (by simp only[];omega);simp only[zAi,Tx.look,o1,o2,zSw,hx2,zCU,Nat.reduceEqDiff,if_true,if_false,and_true]
   ·obtain rfl:r=64:=by omega
    have f3:decide (((64:Nat):Int)<64)=false:=dF (by omega);rw[←hx]at hr8 ⊢;simp only[f3,zA,go_sem];repeat refine sd2 ?_
    refine loopK.intro _ _ (I:=fun j:Nat=>⟨[none,none,none,some (.ptr ⟨L+1,0⟩ 0 0)]++oz 8++[some (.ptr ⟨L+2+1,650192⟩ 0 0)]++oz 166++[some (.int .i64 j)]++oz 18,[(⟨L+2+1,650192⟩,.rows 219 8 true true [x.map eW]),(h,.rows 247 10 true true [zCk (adP u x j) tl n])],10000*(200+j+1)⟩)
     (pre:=fun j=>j≤8) (μ:=fun j=>8-j) 0 (by omega) ?_ ?_
    ·refine Sub.of (fun n hn=>hF6 n (by have:n.l=L+2+1:=hn;omega)) (by simp only[go_sem,zAf];try trivial) ?_ (by simp[zAs,keys]) (by simp);simp[zAi,Tx.look,zOw hw8.1,q1,z2]
    intro j hj;by_cases hj8:j<8
    ·have f4:decide ((j:Int)<8)=true:=dT (by omega);have gj:∀d,(zCk (adP u x j) tl n).getD j d= .int .u32 ((u.getD j 0:Nat):Int):=fun d=>by rw[zOx (zEs u x j) tl n hj8,zQd u x hj8,if_neg (by omega)]
     have gx:∀d,(x.map eW).getD j d= .int .u32 ((x.getD j 0:Nat):Int):=fun d=>zNH x j d (by rw[hr8.1];exact hj8)
     have hst:=zOy u x tl n hj8;have hal:(zCk (adP u x j) tl n).length=10:=by simp[zCk,zEs]
     have hxl:(x.map eW).length=8:=by rw[zG];exact hr8.1
     simp only[f4,gj,gx,wG,zP,q1,q2,h2,z1,z2,z4,zA,go_sem];repeat refine sd2 ?_
     refine ⟨zAA (fun x=>if x=h then 1 else x.i+2) (by simp only[zA0,List.map,z1,h2,if_true,if_false];kernel_rfl),⟨by omega,by omega⟩,?_⟩;refine ⟨j+1,by omega,by omega,?_⟩;have hadd:IntKind.u32.wrap (((u.getD j 0:Nat):Int)+((x.getD j 0:Nat):Int))=(((u.getD j 0+x.getD j 0)%M32:Nat):Int):=by rw[←vB,zKH,show M32=2^32 from rfl]
     refine Sub.of (fun n hn=>hF6 n (by have:n.l=L+2+1:=hn;omega)) (by simp only[go_sem,zAf,and_self,zY];try trivial) ?_ (by simp[zAs,keys]) (by simp only[];omega);simp only[zAi,Tx.look,hadd,hst,z1,z2,if_true,if_false,and_true]
    ·obtain rfl:j=8:=by omega
     have f4:decide (((8:Nat):Int)<8)=false:=dF (by omega);rw[zQe];simp only[f4,zA,go_sem];refine ⟨rfl,_,Sub.refl _ _ _,[],rfl,by simp,⟨by omega,?_,trivial⟩,?_⟩
     ·rw[zCd (.inl (by omega))];exact .pure (by simp[Tx.look,z2])
     ·simp[UpdAll,keys]
 ·simp only[h1,Nm.mk.injEq,go_sem];exact po0 (.tup []) ⟨hh,by simp[Tx.look,h1,BW],trivial⟩
theorem zPf{l:List Nat}(hl:l.length=8)(tl:List UInt8)(n:Int)(d:PV):(zCk l tl n).getD 8 d= .str tl:=by
 match l,hl with
 | [_,_,_,_,_,_,_,_],_=>rfl
theorem zPg{l:List Nat}(hl:l.length=8)(tl:List UInt8)(n:Int)(d:PV):(zCk l tl n).getD 9 d= .int .i64 n:=by
 match l,hl with
 | [_,_,_,_,_,_,_,_],_=>rfl
theorem zQf{l:List Nat}(hl:l.length=8)(tl t:List UInt8)(n:Int):List.take 8 (zCk l tl n)++[.str t]++List.drop 9 (zCk l tl n)=zCk l t n:=by
 match l,hl with
 | [_,_,_,_,_,_,_,_],_=>rfl
theorem zQg{l:List Nat}(hl:l.length=8)(tl:List UInt8)(n m:Int):List.take 9 (zCk l tl n)++[.int .i64 m]++List.drop 10 (zCk l tl n)=zCk l tl m:=by
 match l,hl with
 | [_,_,_,_,_,_,_,_],_=>rfl
theorem zEM{l:List Nat}(hl:l.length=8)(tl:List UInt8)(n:Int):(zCk l tl n).length=10:=by simp[zCk,hl]
theorem zId(l:List Nat)(tl:List UInt8)(n:Int):nfl (zCk l tl n)=true:=by rw[zCk,zHH,zFk];rfl
theorem zR3{F:SF}{L nx:Nat}(h:Nm)(hh:h.l≤L)(v k:List Nat)(hv:W8 v)(hk:k.length=64)(hk2:∀i,k.getD i 0<M32)(s tl:List UInt8)(hl:tl.length+s.length≤1000000)(n:Nat)(hn:n≤1000000000)(hF:F h=some (.rows 247 10 true true [zCk v tl n])):
  Con Tryz.prog 150 [.ptr h 0 0,.str s,.agg (k.map eW)] F L nx nx (.tup []) [(h,.rows 247 10 true true [zCk (zBO k v (tl++s) ((tl++s).length/64)) ((tl++s).drop ((tl++s).length/64*64)) ((n+s.length:Nat):Int)])] [h]:=by
 have hkm:(k.map eW).length=64:=by rw[zG,hk]
 have hkn:=zFk k;have hlen:(tl++s).length=tl.length+s.length:=zU;obtain ⟨t,ht⟩:∃t,t=tl++s:=⟨_,rfl⟩;rw[←ht]at hlen ⊢;have htl:t.length≤1000000:=by omega
 have hm:=fun(F:SF) (L nx:Nat) (hh:h.l≤L) (hF:F h=_)=>zPe (F:=F) (L:=L) (nx:=nx) h hh v k hv hk hk2 t htl tl n hF
 have hm8:=zD2 hv k t (t.length/64);obtain ⟨u,hu⟩:∃u,u=zBO k v t (t.length/64):=⟨_,rfl⟩;rw[←hu]at hm hm8 ⊢;obtain ⟨kk,hkk⟩:∃kk,kk=k.map eW:=⟨_,rfl⟩;rw[←hkk]at hkm hkn hm ⊢;have hc:=fun F L nx=>zNE (F:=F) (L:=L) (nx:=nx) (t.drop (t.length/64*64)) (by rw[wU];omega)
 refine bdy Tryz.f150 (hrd:=(by simp;omega)) ?_;intro F3 hF1 hF2;have kh:F3 h=some (.rows 247 10 true true [zCk v tl n]):=(hF1 h (by simp)).trans hF;have h1:∀k,(h=(⟨L+1,k⟩:Nm))=False:=zAI hh;have h2:∀k,((⟨L+1,k⟩:Nm)=h)=False:=zAF hh;have r8:=zPf hv.1 tl n;have r9:=zPg hm8.1 (t.drop (t.length/64*64)) n;have n1:=zId v tl n;have l1:=zEM hv.1 tl n;have l2:=zEM hm8.1 tl n;have l3:=zEM hm8.1 (t.drop (t.length/64*64)) n;have s8:=zQf hm8.1 tl (t.drop (t.length/64*64)) n;have s9:=zQg hm8.1 (t.drop (t.length/64*64)) n;simp only[Tryz.f150,hkm,hkn,kh,r8,←ht,h1,go_sem];repeat refine sd2 ?_
 refine CallVC.same (hm _ _ _ (by omega) (by simp[h1,kh])) ?_;have q1:(t.length:Int).tdiv 64=((t.length/64:Nat):Int):=by
  rw[uJ (by omega)];rfl
 have q2:(((t.length/64:Nat):Int)*64)=((t.length/64*64:Nat):Int):=by omega
 have q3:t.length/64*64≤t.length:=by omega
 have q4:List.take (t.length-t.length/64*64) (t.drop (t.length/64*64))=t.drop (t.length/64*64):=zQ (by rw[wU];omega);simp only[q1,q2,q4,h1,go_sem];repeat refine sd2 ?_
 refine CallVC.same (hc _ _ _) ?_;simp only[kh,r9,s8,s9,h1,go_sem];repeat refine sd2 ?_
 exact po0 (.tup []) ⟨hh,by simp[Tx.look,h1,BW],trivial⟩
theorem zEN(t:List UInt8):∀row∈t.map zBY,zGm row:=by
 intro row h;obtain ⟨b,_,rfl⟩:=List.mem_map.1 h;exact ⟨_,rfl⟩
theorem row_of(x:Nat):[[PV.int .u8 (IntKind.u8.wrap (x:Int))]]=([UInt8.ofNat (x%256)]:List UInt8).map zBY:=by
 have h1:IntKind.u8.wrap (x:Int)=((x%256:Nat):Int):=by simp[IntKind.wrap,IntKind.signed,IntKind.bits]
 have h2:(UInt8.ofNat (x%256)).toNat=x%256:=by simp
 rw[h1];simp only[zL,wM,zBY,h2]
theorem zNI(m v:Nat){j:Nat}(hj:j<m):(zAa m v).take (j+1)=(zAa m v).take j++[UInt8.ofNat (v/256^(m-1-j)%256)]:=by
 have h:j<(zAa m v).length:=by rw[zAL];exact hj
 rw[uX h];congr 2;simp[zAa]
theorem zSy(x:Nat):[[PV.int .u8 (IntKind.u8.wrap ((x/2^24:Nat):Int))],[PV.int .u8 (IntKind.u8.wrap ((x/2^16:Nat):Int))],[PV.int .u8 (IntKind.u8.wrap ((x/2^8:Nat):Int))],[PV.int .u8 (IntKind.u8.wrap (x:Int))]]=(zAa 4 x).map zBY:=by
 have h1:∀a:Nat,IntKind.u8.wrap (a:Int)=(((UInt8.ofNat (a%256)).toNat:Nat):Int):=by intro a;simp[IntKind.wrap,IntKind.signed,IntKind.bits]
 simp only[h1];simp[zAa,List.range,List.range.loop,zBY]
theorem zR4{F:SF}{L nx:Nat}(v k:List Nat)(hv:W8 v)(hk:k.length=64)(hk2:∀i,k.getD i 0<M32)(tl:List UInt8)(hl:tl.length<64)(n:Nat)(hn:n≤1000000000):
  Con Tryz.prog 151 [.agg (zCk v tl n),.agg (k.map eW)] F L nx nx (.str (zGR (zBO k v (zGH tl n) ((zGH tl n).length/64)))) [] []:=by
 have hkm:(k.map eW).length=64:=by rw[zG,hk]
 have hkn:=zFk k;obtain ⟨kk,hkk⟩:∃kk,kk=k.map eW:=⟨_,rfl⟩;have r8:=zPf hv.1 tl n;have r9:=zPg hv.1 tl n;have n1:=zId v tl n;have l1:=zEM hv.1 tl n;have hr9:∀d,(zCk v tl n).getD 9 d= .int .i64 n:=r9;have e1:((119:Int)-(tl.length:Int)).tmod 64=(((119-tl.length)%64:Nat):Int):=by
  rw[wY (by omega)];omega
 have hw1:IntKind.u64.wrap (IntKind.u64.wrap (n:Int)*8)=((8*n:Nat):Int):=by
  rw[wu64,wD (by omega),show ((n:Int)*8)=((8*n:Nat):Int) by omega,wu64,wD (by omega)]
 obtain ⟨z,hz⟩:∃z,z=(119-tl.length)%64:=⟨_,rfl⟩;have hz64:z<64:=by omega
 have hzr:List.take z (List.replicate z [PV.int .u8 0])=(List.replicate z (0:UInt8)).map zBY:=by
  rw[zQ (by simp),List.map_replicate];rfl
 have hbz:=zBK (List.replicate z (0:UInt8));obtain ⟨pre,hpre⟩:∃pre,pre=tl++[128]++List.replicate z 0:=⟨_,rfl⟩;have hpl:pre.length≤200:=by rw[hpre];simp;omega
 have hclo:zGH tl n=pre++zAa 8 (8*n):=by rw[hpre,hz,zGH];simp only[vO]
 rw[←hz]at e1;rw[←hkk]at hkm hkn ⊢;refine bdy Tryz.f151 ?_;intro F3 hF1 hF2;simp only[Tryz.f151,hkm,hkn,r8,r9,l1,n1,e1,hw1,hzr,hbz,←hpre,go_sem];repeat refine sd2 ?_
 refine ⟨⟨by simp,zEN _⟩,by simp;omega,zAA (fun x=>x.i) (by kernel_rfl),?_⟩;refine loopK.intro _ _ (I:=fun j:Nat=>⟨[none,none,some (.ptr ⟨L+1,0⟩ 0 0),some (.ptr ⟨L+1,32⟩ 0 0),some (.str []),some (.str (pre++(zAa 8 (8*n)).take j)),some (.int .u64 ((8*n:Nat):Int)),some (.int .i64 (56-8*(j:Int)))]++oz 59,[(⟨L+1,0⟩,.rows 247 10 true true [zCk v tl n]),(⟨L+1,32⟩,.rows 220 64 true true [kk])],10000*(j+1)⟩)
  (pre:=fun j=>j≤8) (μ:=fun j=>8-j) 0 (by omega) ?_ ?_
 ·refine Sub.of (hfz hF2) (by simp only[go_sem,zAf,uG,zK];try trivial) ?_ (by simp[zAs,keys]) (by simp);simp[zAi,Tx.look]
 intro j hj;by_cases hlt:j<8
 ·have f1:decide ((56-8*(j:Int))≥0)=true:=dT (by omega);have f1':decide ((0:Int)≤(56-8*(j:Int)))=true:=dT (by omega);have hsh:=zSf (8*n) (7-j) (b:=56-8*(j:Int)) (by omega) (by omega);have hrw:=row_of (8*n/256^(7-j));have htk:=zNI 8 (8*n) hlt;rw[show 8-1-j=7-j by omega]at htk;obtain ⟨c,hc⟩:∃c,c=UInt8.ofNat (8*n/256^(7-j)%256):=⟨_,rfl⟩;rw[←hc]at hrw htk;have hbc:=zBK [c];have hbc2:zBc [zBY c]=[c]:=zBK [c];simp only[f1,hsh,hrw,kS2,zA,go_sem];repeat refine sd2 ?_
  refine ⟨zEN [c],by simp[hbc2,zAL];omega,⟨by omega,by omega⟩,?_⟩;refine ⟨j+1,by omega,by omega,?_⟩;have e7:(56-8*(j:Int)-8)=56-8*((j+1:Nat):Int):=by omega
  rw[htk,e7];refine Sub.of (hfz hF2) (by simp only[go_sem,zAf,and_self,vO,hbc2];try trivial) ?_ (by simp[zAs,keys]) (by simp only[];omega);simp[zAi,Tx.look]
 ·obtain rfl:j=8:=by omega
  have f1:decide ((56-8*((8:Nat):Int))≥0)=false:=dF (by omega);have f1':decide ((0:Int)≤(56-8*((8:Nat):Int)))=false:=dF (by omega);have ht8:(zAa 8 (8*n)).take 8=zAa 8 (8*n):=zQ (by rw[zAL];omega);rw[ht8,←hclo];have hm:=fun(F:SF) (nx:Nat) (hF:F ⟨L+1,0⟩=_)=>zPe (F:=F) (L:=L+1) (nx:=nx) ⟨L+1,0⟩ (by simp) v k hv hk hk2 (zGH tl n) (by rw[hclo,zU,zAL];omega) tl n hF
  have hm8:=zD2 hv k (zGH tl n) ((zGH tl n).length/64);obtain ⟨u,hu⟩:∃u,u=zBO k v (zGH tl n) ((zGH tl n).length/64):=⟨_,rfl⟩;rw[←hu,←hkk]at hm;rw[←hu]at hm8 ⊢;have hun:=zId u tl n;have hul:=zEM hm8.1 tl n;have hut:List.take 8 (zCk u tl n)=u.map eW:=by rw[zCk,uS (by rw[zG,hm8.1];omega),zQ (by rw[zG,hm8.1];omega)]
  simp only[f1,go_sem];repeat refine sd2 ?_
  refine CallVC.same (hm _ _ (by simp[Tx.look])) ?_;simp only[hut,go_sem];repeat refine sd2 ?_
  refine loopK.intro _ _ (I:=fun y:Nat×Nat=>⟨[none,none,none,none,some (.str []),none,none,none,some (.sl ⟨L+1,y.2⟩ 0 (4*y.1))]++oz 37++[some (.agg (u.map eW)),some (.int .i64 y.1)]++oz 19,[(⟨L+1,0⟩,.rows 247 10 true true [zCk u tl n]),(⟨L+1,32⟩,.rows 220 64 true true [kk]),(⟨L+1,y.2⟩,.rows 5 1 true true ((zGR (u.take y.1)).map zBY))],10000*(9+y.1+1)⟩)
   (pre:=fun y=>y.1≤8∧100≤y.2∧y.2<10000*(9+y.1+1)) (μ:=fun y=>8-y.1) (0,90288) ⟨by simp,by simp,by simp⟩ ?_ ?_
  ·refine Sub.trans (zUm 8 5 (wd:=1) (by omega) rfl) ?_;refine Sub.of (hfz hF2) (by simp only[Nat.mul_zero,go_sem,zAf,and_self,zW];try trivial) ?_ ?_ ?_;·simp[zAi,Tx.look,zAl,setH,zGR]
   ·simp[zAs,keys,zAl,setH]
   ·simp
  rintro ⟨j,q⟩ ⟨hj,hq0,hq⟩
  simp only at hj hq0 hq ⊢;obtain ⟨i,hi⟩:∃i,i=9+j:=⟨_,rfl⟩;rw[←hi]at hq ⊢;have q_0:(q=0)=False:=by apply eq_false;omega
  have n0_q:(0=q)=False:=by apply eq_false;omega
  have q_32:(q=32)=False:=by apply eq_false;omega
  have n32_q:(32=q)=False:=by apply eq_false;omega
  obtain ⟨q_n1,q_n2,q_n3,q_n4,q_n5⟩:=nqL L (i:=i) (p:=q) (by omega);have hoc:(zGR (u.take j)).length=4*j:=by
   have:∀l:List Nat,(zGR l).length=4*l.length:=by
    intro l;induction l with
    |nil=>rfl
    |cons a l ih=>simp only[zGR,uW,zU,vC,zAL]at ih ⊢;omega
   rw[this,wI,hm8.1];omega
  by_cases hlt:j<8
  ·have f3:decide ((j:Int)<8)=true:=dT (by omega);have gj:∀d,(u.map eW).getD j d= .int .u32 ((u.getD j 0:Nat):Int):=fun d=>zNH u j d (by rw[hm8.1];exact hlt)
   have gl:(u.map eW).length=8:=by rw[zG];exact hm8.1
   have k5:zGR (u.take (j+1))=zGR (u.take j)++zAa 4 (u.getD j 0):=by
    have hjl:j<u.length:=by rw[hm8.1];exact hlt
    have hgd:u.getD j 0=u[j]:=by simp[zE,hjl]
    rw[uX hjl,hgd];simp only[zGR,List.flatMap_append,uW,List.flatMap_nil,zK]
   have hx:=hm8.2 j;obtain ⟨x,hx0⟩:∃x,x=u.getD j 0:=⟨_,rfl⟩;rw[←hx0]at gj k5 hx;have s1:=zHw x 24 (by omega);have s2:=zHw x 16 (by omega);have s3:=zHw x 8 (by omega);simp only[f3,gj,gl,s1,s2,s3,wG,zG,q_0,q_32,q_n1,q_n2,q_n5,kS2,kS3,zA,go_sem];repeat refine sd2 ?_
   have hr4:=zSy x;refine ⟨(j+1,10000*(i+1)+512),⟨by simp only[];omega,by simp only[];omega,by simp only[];omega⟩,by simp only[];omega,?_⟩;refine Sub.of (hfz hF2) (by simp only[Nat.mul_add,wG,go_sem,zAf,and_self,zY];try trivial) ?_ (by simp[zAs,keys]) (by simp only[];omega);simp only[hr4,k5,wQ];simp[zAi,Tx.look,q_n1,nB,kS2]
  ·obtain rfl:j=8:=by omega
   have f3:decide (((8:Nat):Int)<8)=false:=dF (by omega);have hu9:u.take 8=u:=zQ (by rw[hm8.1];omega);rw[hu9]at hoc ⊢;have hb9:=zBK (zGR u);have ht9:List.take (4*8) ((zGR u).map zBY)=(zGR u).map zBY:=zQ (by rw[zG];omega);simp only[f3,ht9,hb9,zG,q_0,q_32,zA,go_sem];repeat refine sd2 ?_
   refine ⟨⟨by omega,zEN _⟩,?_⟩;exact ps0
def zBP(k v:List Nat)(ls:List (List UInt8)):Nat→List Nat×List UInt8×Nat
 |0=>(v,[],0)
 |j+1=>(zBO k (zBP k v ls j).1 ((zBP k v ls j).2.1++ls.getD j []) (((zBP k v ls j).2.1++ls.getD j []).length/64),((zBP k v ls j).2.1++ls.getD j []).drop (((zBP k v ls j).2.1++ls.getD j []).length/64*64),(zBP k v ls j).2.2+(ls.getD j []).length)
theorem zNJ{v:List Nat}(hv:W8 v)(k:List Nat)(ls:List (List UInt8)):∀j,W8 (zBP k v ls j).1
 |0=>hv
 |j+1=>zD2 (zNJ hv k ls j) _ _ _
theorem zOz(k v:List Nat)(ls:List (List UInt8)):∀j,(zBP k v ls j).2.1.length<64
 |0=>by simp[zBP]
 |j+1=>by simp only[zBP,wU];omega
theorem zNK{ls:List (List UInt8)}(hs:∀s∈ls,s.length≤10000)(j:Nat):(ls.getD j []).length≤10000:=by
 by_cases h:j<ls.length
 ·have:ls.getD j []=ls[j]:=by simp[zE,h]
  rw[this];exact hs _ (uH h)
 ·rw[zE,uA (by omega)];simp
theorem zNL(k v:List Nat){ls:List (List UInt8)}(hs:∀s∈ls,s.length≤10000):∀j,(zBP k v ls j).2.2≤10000*j
 |0=>by simp[zBP]
 |j+1=>by
  have:=zNL k v hs j;have:=zNK hs j;simp only[zBP];omega
theorem zR5{F:SF}{L nx:Nat}(v k:List Nat)(hv:W8 v)(hk:k.length=64)(hk2:∀i,k.getD i 0<M32)(m:Nm)(hm:m.l≤L)(o p:Bool)(ls:List (List UInt8))(hl:ls.length≤100)(hs:∀s∈ls,s.length≤10000)(hF:F m=some (.rows 9 1 o p (ls.map fun s=>[.str s]))):
  Con Tryz.prog 144 [.agg (v.map eW++k.map eW),.sl m 0 ls.length] F L nx nx (.str (zGR (zBO k (zBP k v ls ls.length).1 (zGH (zBP k v ls ls.length).2.1 (zBP k v ls ls.length).2.2) ((zGH (zBP k v ls ls.length).2.1 (zBP k v ls ls.length).2.2).length/64)))) [] [m]:=by
 have hkm:(k.map eW).length=64:=by rw[zG,hk]
 have hvm:(v.map eW).length=8:=by rw[zG,hv.1]
 have hkn:=zFk k;have hvn:=zFk v;obtain ⟨vv,hvv⟩:∃vv,vv=v.map eW:=⟨_,rfl⟩;obtain ⟨kk,hkk⟩:∃kk,kk=k.map eW:=⟨_,rfl⟩;rw[←hkk]at hkm hkn ⊢;rw[←hvv]at hvm hvn ⊢;have hlen:(vv++kk).length=72:=by rw[zU];omega
 have hnf:nfl (vv++kk)=true:=by rw[zHH,hvn,hkn];rfl
 have ht:List.take 8 (vv++kk)=vv:=by rw[uS (by omega),zQ (by omega)]
 have hd:List.drop 8 (vv++kk)=kk:=by rw[qN (by omega),uD (by omega),zF]
 have ht2:List.take 64 kk=kk:=zQ (by omega);refine bdy Tryz.f144 (hrd:=(by simp;omega)) ?_;intro F3 hF1 hF2;have hFm:F3 m=some (.rows 9 1 o p (ls.map fun s=>[.str s])):=(hF1 m (by simp)).trans hF;have m1:∀k,(m=(⟨L+1,k⟩:Nm))=False:=zAI hm;have m2:∀k,((⟨L+1,k⟩:Nm)=m)=False:=zAF hm;have hrow:vv++[PV.str [],PV.int .i64 0]=zCk v [] 0:=by rw[hvv];rfl
 have hrl:=zEM hv.1 [] 0;have hrn:=zId v [] 0;simp only[Tryz.f144,hlen,hnf,ht,hvm,go_sem];repeat refine sd2 ?_
 simp only[hrow,hrl,List.drop_succ_cons,List.drop_nil,zK,hrn];refine ⟨trivial,trivial,?_⟩;refine loopK.intro _ _ (I:=fun j:Nat=>⟨[none,none,some (.ptr ⟨L+1,0⟩ 0 0),none,some (.str []),some (.ptr ⟨L+1,192⟩ 0 0)]++oz 6++[some (.sl m 0 ls.length),some (.int .i64 ls.length),some (.int .i64 j)]++oz 12,[(⟨L+1,0⟩,.rows 222 72 true true [vv++kk]),(⟨L+1,192⟩,.rows 247 10 true true [zCk (zBP k v ls j).1 (zBP k v ls j).2.1 ((zBP k v ls j).2.2:Nat)])],10000*(j+1)⟩)
  (pre:=fun j=>j≤ls.length) (μ:=fun j=>ls.length-j) 0 (by omega) ?_ ?_
 ·refine Sub.of (hfz hF2) (by simp only[go_sem,zAf];try trivial) ?_ (by simp[zAs,keys]) (by simp);simp[zAi,Tx.look,zBP]
 intro j hj;have hw:=zNJ hv k ls j;have htl:=zOz k v ls j;have hn:=zNL k v hs j;by_cases hlt:j<ls.length
 ·have f1:decide ((j:Int)<(ls.length:Int))=true:=dT (by omega);have hll:(ls.map fun s=>[PV.str s]).length=ls.length:=zG ..;have hget:((ls.map fun s=>[PV.str s]).getD j []).getD 0 (.tup [])= .str (ls.getD j []):=by simp[hlt,zE]
  have hg:=zNK hs j;have ha:=fun(F:SF) (nx:Nat) (hF:F ⟨L+1,192⟩=_)=>zR3 (F:=F) (L:=L+1) (nx:=nx) ⟨L+1,192⟩ (by simp) _ k hw hk hk2 (ls.getD j []) (zBP k v ls j).2.1 (by omega) (zBP k v ls j).2.2 (by omega) hF
  have hnx:zBP k v ls (j+1)=_:=rfl;simp only[←hkk]at ha;simp only[f1,hFm,hget,hll,m1,hd,ht2,zA,go_sem];repeat refine sd2 ?_
  refine CallVC.same (ha _ _ (by simp[Tx.look])) ?_;simp only[zA,go_sem];repeat refine sd2 ?_
  refine ⟨j+1,by omega,by omega,?_⟩;refine Sub.of (hfz hF2) (by simp only[go_sem,zAf,and_self,zY];try trivial) ?_ (by simp[zAs,keys]) (by simp only[];omega);simp only[zAi,Tx.look,zBP,zCU,Nat.reduceEqDiff,if_true,if_false,and_true];try simp
 ·obtain rfl:j=ls.length:=by omega
  have f1:decide ((ls.length:Int)<(ls.length:Int))=false:=dF (by omega);have he:=fun(F:SF) (L nx:Nat)=>zR4 (F:=F) (L:=L) (nx:=nx) _ k hw hk hk2 _ htl (zBP k v ls ls.length).2.2 (by omega:(zBP k v ls ls.length).2.2≤1000000000)
  simp only[←hkk]at he;simp only[f1,hd,ht2,zA,go_sem];repeat refine sd2 ?_
  refine CallVC.same (he _ _ _) ?_;simp only[zA,go_sem];exact ps0
theorem zFH{k v:List Nat}{a b:List UInt8}:∀i,64*i≤a.length→zBO k v (a++b) i=zBO k v a i
 |0,_=>rfl
 |i+1,h=>by
  rw[zBO,zBO,zFH i (by omega),qN (by omega),uS (by rw[wU];omega)]
theorem zEt(k v:List Nat)(s:List UInt8)(i:Nat):∀j,zBO k v s (i+j)=zBO k (zBO k v s i) (s.drop (64*i)) j
 |0=>rfl
 |j+1=>by
  rw[←zA,zBO,zBO,zEt k v s i j,List.drop_drop,Nat.mul_add]
theorem zKx(k v:List Nat)(ls:List (List UInt8)):∀j,j≤ls.length→zBP k v ls j=(zBO k v (ls.take j).flatten ((ls.take j).flatten.length/64),(ls.take j).flatten.drop ((ls.take j).flatten.length/64*64),(ls.take j).flatten.length)
 |0,_=>by simp[zBP,zBO]
 | j+1,h=>by
  have hg:ls.getD j []=ls[j]:=by simp[zE,show j<ls.length by omega]
  have hf:(ls.take (j+1)).flatten=(ls.take j).flatten++ls[j]:=by
   rw[uX (by omega),List.flatten_append];simp only[List.flatten_cons,List.flatten_nil,zK]
  rw[zBP,zKx k v ls j (by omega),hg,hf];generalize (ls.take j).flatten=t;generalize ls[j]=s;simp only;obtain ⟨m,hm⟩:∃m,m=t.length/64:=⟨_,rfl⟩;rw[←hm];have hd:t.drop (m*64)++s=(t++s).drop (64*m):=by rw[vL m,qN (by omega)]
  have hl:((t++s).drop (64*m)).length=(t++s).length-64*m:=wU ..;have hq:(t++s).length/64=m+((t++s).length-64*m)/64:=by
   have:(t++s).length=t.length+s.length:=zU;omega
  rw[hd,hl,←zFH (b:=s) m (by omega),←zEt,←hq,List.drop_drop,zU];congr 3;rw[zU]at hq;omega
theorem zQh(k v:List Nat)(ls:List (List UInt8)):zGR (zBO k (zBP k v ls ls.length).1 (zGH (zBP k v ls ls.length).2.1 (zBP k v ls ls.length).2.2) ((zGH (zBP k v ls ls.length).2.1 (zBP k v ls ls.length).2.2).length/64))=zJE k v ls.flatten:=by
 rw[zKx k v ls _ (zH _),qI];generalize ls.flatten=s;simp only[zJE];congr 1;obtain ⟨m,hm⟩:∃m,m=s.length/64:=⟨_,rfl⟩;rw[←hm];generalize zGH (s.drop (m*64)) s.length=c;have ht:(s.take (m*64)).length=64*m:=by rw[wI];omega
 have h1:zBO k v s m=zBO k v (s.take (m*64)++c) m:=by
  rw[zFH m (by omega)];have h2:=zFH (k:=k) (v:=v) (a:=s.take (m*64)) (b:=s.drop (m*64)) m (by omega);rw[List.take_append_drop]at h2;exact h2
 have h3:(m*64+c.length)/64=m+c.length/64:=by omega
 rw[h3,zEt,←h1,List.drop_append,ht,Nat.sub_self,uU,uD (by omega),zF]
end Go.Proofs.YtifhjhbfhdcahaaGreat
end
