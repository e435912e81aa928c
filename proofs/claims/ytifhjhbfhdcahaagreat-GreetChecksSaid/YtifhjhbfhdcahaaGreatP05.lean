/- Lemmas for the walk: T9, T10, T11, T9b, T9c, T9d, T9e. -/
import Derived.Test.YtifhjhbfhdcahaaGreatP04
import Derived.Lib.Builder
import Derived.MapKept
import Derived.Lib.UnsafeStr
set_option linter.all false
section
namespace Go.Tx
open Go.Sx (TK tk zBe cellsOf zAD zCh zBI zAB zAO zCn wrap_i64 zAS zB1 zBg zDm addr_add zF7 zAw zA5 zB4)
section
variable {P : Program} {T : Tys} {E : Env} {F : SF} {nx : Nm} {w : World} {Z : Nat → Prop}
def zLQ:List PV→UInt8
 | [.int .u8 n]=>UInt8.ofNat n.toNat
 |_=>0
def zBc(rs:List (List PV)):List UInt8:=rs.map zLQ
def zGm(row:List PV):Prop:=∃n:Int,row=[.int .u8 n]
def zBY(b:UInt8):List PV:=[.int .u8 b.toNat]
def zCo(T:Tys)(F:SF)(nx:Nm)(src dst:TypeId)(x:PV):Option Res:=
 match T.get src,T.get dst with
 | some si,some di=>
  match si.k,di.k with
  | .int _,.int k=>
   match x with
   | .int _ n=>if k= .i64 then some (zAH (zCn n) (.int .i64 n)) else some (zAH True (.int k (k.wrap n)))
   |_=>none
  | .str,.str=>
   match x with
   | .str s=>some (zAH True (.str s))
   |_=>none
  | .slice e,.str=>
   match T.get e with
   | some {k:=.int .u8,..}=>
    match x with
    | .sl n r l=>
     match F n with
     |some (.rows _ wd _ _ rs)=>if wd==1 then some {vc:=r+l≤rs.length∧∀row∈(rs.drop r).take l,zGm row,v:=.str (zBc ((rs.drop r).take l)),upd:=[],rd:=[n]} else none
     |_=>none
    | .fs wd rs=>if wd==1 then some (zAH (∀row∈rs,zGm row) (.str (zBc rs))) else none
    | .nilS=>some (zAH True (.str []))
    |_=>none
   |_=>none
  | .str,.slice e=>
   match T.get e with
   |some {k:=.int .u8,size:=1,..}=>
    match x with
    | .str s=>some {vc:=s.length<9223372036854775807,v:=.sl nx 0 s.length,upd:=[(nx,.rows e 1 true true (s.map zBY))],rd:=[]}
    |_=>none
   |_=>none
  | .ptr t0,.uptr=>
   match x with
   | .ptr n r c=>
    match F n,T.get t0 with
    |some (.rows _ wd _ _ rs),some ti=>if ti.size==0 then none else some {vc:=r<rs.length∧c<wd,v:=.ptr n r c,upd:=[],rd:=[n]}
    |_,_=>none
   |_=>none
  | .uptr,.ptr u=>
   match x with
   | .ptr n r c=>
    match F n with
    |some (.rows e wd _ _ rs)=>
     match T.get e,T.get u with
     |some ei,some _=>if ei.size==wd&&ei.lies.contains (c,u) then some {vc:=r<rs.length∧c<wd,v:=.ptr n r c,upd:=[],rd:=[n]} else none
     |_,_=>none
    |_=>none
   |_=>none
  |_,_=>none
 |_,_=>none
theorem zMC{d:TypeDesc}(h:tk d= .uptr):d= .unsafePointer:=by cases d<;>simp[tk]at h ⊢
theorem zMD{d:TypeDesc}{e:TypeId}(h:tk d= .ptr e):d= .pointer e:=by cases d<;>simp[tk]at h ⊢;exact h
theorem zME{fits:TypeId→Bool}{d:Nat}{e:TypeId}{c:Nat}(h:rowAt P fits d e 1 c 1=true):∀(N r:Nat),r<N→rowAt P fits d e N (r*P.cellsOf e+c) 1=true:=by
 intro N r hr;cases d with
 |zero=>simp[rowAt]at h
 | succ d=>
  unfold rowAt at h ⊢;simp only at h ⊢;split at h;·cases h
  rename_i hs;rw[if_neg hs];have hpos:0<P.cellsOf e:=by omega
  have hc:c/P.cellsOf e=0:=by
   simp only[vV,zC,decide_eq_true_eq]at h;generalize c/P.cellsOf e=q at h;rcases h with ⟨⟨_,h⟩,_⟩|⟨h,_⟩<;>omega
  have hlt:c<P.cellsOf e:=by
   rcases wT c (P.cellsOf e) with h|h;·exact h
   ·have:=Nat.div_pos h hpos;omega
  have e1:(r*P.cellsOf e+c)/P.cellsOf e=r:=by
   rw[Nat.add_comm,vL,Nat.add_mul_div_left _ _ hpos,hc];omega
  have e2:(r*P.cellsOf e+c)%P.cellsOf e=c%P.cellsOf e:=by
   rw[Nat.add_comm,vL,Nat.add_mul_mod_self_left]
  rw[e1,e2];rw[hc]at h;have a1:decide (r+1≤N)=true:=decide_eq_true hr;have a2:decide (r<N)=true:=decide_eq_true hr;have b1:decide (0+1≤1)=true:=rfl;have b2:decide (0<1)=true:=rfl;rw[a1,a2];rw[b1,b2]at h;exact h
theorem zDL{cs:List Value}{acc:ByteArray}(rows:List (List PV))(hl:cs.length=rows.length)(h:∀(j:Nat) (row:List PV) (v:Value),rows[j]?=some row→cs[j]?=some v→∃n:Int,row=[.int .u8 n]∧v= .int .u8 n):
  (forIn cs acc (fun c s=>(match c with| .int .u8 n=>pure (ForInStep.yield (s.push (UInt8.ofNat n.toNat)))|_=>do stuck "bytesToString: byte expected";pure (ForInStep.yield s):Sem (ForInStep ByteArray)))).run P w= .ok ⟨acc.data++(rows.map zLQ).toArray⟩ w:=by
 induction cs generalizing rows acc with
 |nil=>
  have:rows=[]:=vI (by simpa using hl.symm);subst this;simp
 | cons v l ih=>
  cases rows with
  |nil=>simp at hl
  |cons row rows=>
   obtain ⟨n,rfl,rfl⟩:=h 0 row v rfl rfl;simp only[List.forIn_cons,zB,zI,zD];rw[ih rows (by simpa using hl) (fun j row v h1 h2=>h (j+1) row v (by simpa using h1) (by simpa using h2))];congr 2;simp[zLQ,ByteArray.push]
theorem zF1{b o e:Nat}{cs:Array Value}{fz:Nat×Nat}{rs:List (List PV)}(hb:w.heap[b]?=some (.cells cs e fz))(hl:∀row∈rs,row.length=1)(hv:VRr w Z E rs o cs)(hby:∀row∈rs,zGm row)(cap:Nat):
  (Conv.bytesToString (.slice (some ⟨b,o,none⟩) rs.length cap)).run P w= .ok (zF8 (zBc rs)) w:=by
 obtain ⟨news,a1,a2,a3⟩:=VRr.cells (by omega) hl hv;simp only[wG]at a1;have hload:(loadCells ⟨b,o,none⟩ rs.length).run P w= .ok news.toArray w:=by
  rw[←a1];refine run_loadCells_list w _ news fun j u hj=>?_
  rw[addr_add];simp only[World.cell?,hb,vM,wC,if_false];exact (a2 j u hj).1
 have hloop:=zDL (P:=P) (w:=w) (cs:=news) (acc:=.empty) rs a1 (fun j row v q1 q2=>by
  obtain ⟨n,hn⟩:=hby row (zO q1);subst hn;obtain ⟨v',b1,_,b3⟩:=(zAM hl).1 a3 j _ 0 (.int .u8 n) q1 rfl;simp only[VR]at b3;subst b3;simp only[wG,wH,zP,wR]at b1;rw[q2]at b1;exact ⟨n,rfl,by injection b1⟩)
 simp only[Conv.bytesToString,zB,hload,zD];rw[←Array.forIn_toList];refine (congrArg (fun q:Result ByteArray=>q.andThen fun a w'=>Sem.run P (pure (Value.string a)) w') (hloop:_)).trans ?_;simp[zBc,zF8]
theorem zBN(a:Option Addr)(cap:Nat):(Conv.bytesToString (.slice a 0 cap)).run P w= .ok (zF8 []) w:=by
 cases a with
 |none=>rfl
 |some a=>simp[Conv.bytesToString,loadCells,loadCellsFrom,Result.andThen,zF8];rfl
theorem zHf(hT:T.Ok P)(h:HRel E F w)(hE:E nx=none){src dst:TypeId}{x:PV}{x':Value}{r:Res}(hs:zCo T F nx src dst x=some r)(hvc:r.vc)(hx:VR w (Zn E F w) E x x'):
  ∃v' w',(convert src dst x').run P w= .ok v' w'∧Gives E F nx w r v' w':=by
 unfold zCo at hs;split at hs;rotate_left;·cases hs
 rename_i si di hsi hdi;obtain ⟨zs,hts⟩:=hT _ _ hsi;obtain ⟨zd,htd⟩:=hT _ _ hdi;obtain ⟨ds,hds,hks⟩:=hts.run_underlying w;obtain ⟨dd,hdd,hkd⟩:=htd.run_underlying w;split at hs
 ·rename_i k0 k h1 h2;rw[h1]at hks;rw[h2]at hkd;obtain rfl:=zB1 hks;obtain rfl:=zB1 hkd;split at hs;rotate_left;·cases hs
  rename_i k1 n;simp only[VR]at hx;subst hx;split at hs
  ·rename_i hk;subst hk;injection hs with hs;subst hs;refine ⟨.int .i64 n,w,?_,Gives.still h rfl (by simp[zAH,VR])⟩;simp[convert,hds,hdd,Conv.intToInt,wrap_i64 hvc]
  ·injection hs with hs;subst hs;refine ⟨.int k (k.wrap n),w,?_,Gives.still h rfl (by simp[zAH,VR])⟩;simp[convert,hds,hdd,Conv.intToInt]
 ·rename_i h1 h2;rw[h1]at hks;rw[h2]at hkd;obtain rfl:=zBg hks;obtain rfl:=zBg hkd;split at hs;rotate_left;·cases hs
  rename_i s;simp only[VR]at hx;subst hx;injection hs with hs;subst hs;refine ⟨zF8 s,w,?_,Gives.still h rfl (by simp[zAH,VR])⟩;simp[convert,hds,hdd,zF8]
 ·rename_i e h1 h2;rw[h1]at hks;rw[h2]at hkd;obtain rfl:=zAS hks;obtain rfl:=zBg hkd;split at hs;rotate_left;·cases hs
  rename_i _ _ _ _ _ hei;obtain ⟨ze,hte⟩:=hT _ _ hei;obtain ⟨de,hde,hke⟩:=hte.run_underlying w;obtain rfl:=zB1 hke;have hrun:∀a l c,(convert src dst (.slice a l c)).run P w=(Conv.bytesToString (.slice a l c)).run P w:=by
   intro a l c
   simp_all[convert]
  split at hs
  ·rename_i n row l;split at hs;rotate_left;·cases hs
   rename_i e0 wd own p rs hF;split at hs;rotate_left;·cases hs
   rename_i hw;simp only[beq_iff_eq]at hw;subst hw;injection hs with hs;subst hs;obtain ⟨v1,v2⟩:=hvc;simp only[VR]at hx;obtain ⟨i,hi,hor⟩:=hx;rcases hor with ⟨hz,rfl,rfl⟩|⟨hz,rfl⟩
   ·refine ⟨zF8 [],w,?_,Gives.still h rfl (by simp[VR,zBc])⟩;rw[hrun];exact zBN _ _
   ·have hR:=zAJ h hF hi hz;obtain ⟨cs,fz,b1,b2,b3,b4⟩:=hR.cells;have hlen:((rs.drop row).take l).length=l:=by simp;omega
    refine ⟨zF8 (zBc ((rs.drop row).take l)),w,?_,Gives.still h rfl (by simp[VR])⟩;rw[hrun];have:=zF1 (P:=P) b1 (fun r hr=>hR.len r (uE (vR hr))) (VRr.drop hR.len b4 (l:=row) (n:=l)) v2 (i.n-row);rw[hlen]at this;by_cases hl0:l=0
    ·subst hl0;simpa[zBc] using zBN (P:=P) (w:=w) (some ⟨i.b,i.o+zJa i row 0,none⟩) (i.n-row)
    ·rw[zDF (by omega),hR.wd_eq];exact this
  ·rename_i wd rs;split at hs;rotate_left;·cases hs
   rename_i hw;simp only[beq_iff_eq]at hw;subst hw;injection hs with hs;subst hs;simp only[VR]at hx;obtain ⟨a,cap,rfl,q1,q2,q3,q4,hor⟩:=hx;refine ⟨zF8 (zBc rs),w,?_,Gives.still h rfl (by simp[zAH,VR])⟩;rw[hrun];rcases hor with rfl|⟨b,o,cs,e0,fz,rfl,_,u2,u3⟩;·exact zBN _ _
   ·exact zF1 u2 q4 u3 hvc cap
  ·injection hs with hs;subst hs;simp only[VR]at hx;subst hx;refine ⟨zF8 [],w,?_,Gives.still h rfl (by simp[zAH,VR])⟩;rw[hrun];exact zBN _ _
  ·cases hs
 ·rename_i e h1 h2;rw[h1]at hks;rw[h2]at hkd;obtain rfl:=zBg hks;obtain rfl:=zAS hkd;split at hs;rotate_left;·cases hs
  rename_i _ _ _ _ hei;split at hs;rotate_left;·cases hs
  rename_i s;simp only[VR]at hx;subst hx;injection hs with hs;subst hs;simp only at hvc;obtain ⟨ze,hte⟩:=hT _ _ hei;obtain ⟨de,hde,hke⟩:=hte.run_underlying w;obtain rfl:=zB1 hke;have hss:(⟨s.toArray⟩:ByteArray).size=s.length:=zCK s;have hcut:∀t,(Question.appendCap s.length 0 e).cut t=s.length+t%(2^63-s.length):=fun t=>rfl
  generalize hcap:s.length+(w.tape w.drawn (.appendCap s.length 0 e))%(2^63-s.length)=cap;have hge:s.length≤cap:=by omega
  have hle:cap≤maxLen:=by
   have:=vE (w.tape w.drawn (.appendCap s.length 0 e)) (show 0<2^63-s.length by omega);unfold maxLen;omega
  let cs:List Value:=s.map fun b=>.int .u8 b.toNat
  have hv:VRr w (Zn E F w) (EE E true) (s.map zBY) 0 cs.toArray:=by
   refine (zAM (wd:=1) (by simp[zBY])).2 fun r row c v hr hc=>?_
   rw[wE]at hr;cases hb:s[r]? with
   |none=>rw[hb]at hr;cases hr
   |some b=>
    rw[hb]at hr;simp only[wJ,zZ]at hr;subst hr;have hc0:c=0:=by have:=zAB hc;simp[zBY]at this;exact this
    subst hc0;simp[zBY]at hc;subst hc;exact ⟨.int .u8 b.toNat,by simp[cs,hb],rfl,by simp[VR]⟩
  have hS:=zUX (t:=e) (cap:=cap) (wd:=1) h hE (by decide) (by simp[zBY]) (by simp[cs]) hv (by simpa using hge) hle (rest:=Array.replicate (cap-s.length) (.int .u8 0)) (by simp) (cap,cap+1) (by intro j hj q;simp only[wG]at hj;omega);refine ⟨.slice (some ⟨w.heap.size,0,none⟩) s.length cap,_,?_,E.set nx ⟨w.heap.size,0,1,cap,false,none⟩,zHR (zUO _ _ _) rfl _,hS.drew,FreshIn.set⟩;have hr:=zB4 (P:=P) e ⟨s.toArray⟩ w cap (by rw[hss,hcut,hcap]) (cs.toArray++Array.replicate (cap-s.length) (.int .u8 0)) (by rw[hss];simp[cs]) (by simp[cs];omega);rw[hss]at hr;simp only[convert,zF8,zB,hds,hdd,hde,zD,hr];rfl
 ·rename_i t0 h1 h2;obtain ⟨ds,hds,hks⟩:=hts.sx.desc;obtain ⟨dd,hdd,hkd⟩:=htd.sx.desc;simp only[h1]at hks;simp only[h2]at hkd;obtain rfl:=zMD hks;obtain rfl:=zMC hkd;split at hs;rotate_left;·cases hs
  rename_i n r c;split at hs;rotate_left;·cases hs
  rename_i e wd own p rs ti hF hti;split at hs;·cases hs
  rename_i hsz;injection hs with hs;subst hs;obtain ⟨hr,hc⟩:=hvc;have hx0:=hx;simp only[VR]at hx;obtain ⟨i,hi,hz,rfl⟩:=hx;have hR:=zAJ h hF hi hz;obtain ⟨cs,fz,b1,b2,_,_⟩:=hR.cells;obtain ⟨zt,hzt⟩:=hT _ _ hti;obtain ⟨j,hj,_,hj2,_⟩:=hzt.sx.info;refine ⟨_,w,?_,Gives.still h rfl hx0⟩;have hlt:r*i.wd+c<i.n*wd:=by
   rw[hR.wd_eq];have:(r+1)*wd≤i.n*wd:=wN _ (by have:=hR.le;omega);rw[wV]at this;omega
  exact Lib.run_to_unsafe (e:=e) (cells:=cs.size) w ⟨i.b,i.o+(r*i.wd+c),none⟩ hds hdd hj (by rw[hj2];simpa using hsz) (by simp[World.shape?,b1]) (by rw[hR.o0];rw[hR.o0]at b2;simp only;omega)
 ·rename_i u h1 h2;obtain ⟨ds,hds,hks⟩:=hts.sx.desc;obtain ⟨dd,hdd,hkd⟩:=htd.sx.desc;simp only[h1]at hks;simp only[h2]at hkd;obtain rfl:=zMC hks;obtain rfl:=zMD hkd;split at hs;rotate_left;·cases hs
  rename_i n r c;split at hs;rotate_left;·cases hs
  rename_i e wd own p rs hF;split at hs;rotate_left;·cases hs
  rename_i ei iu hei hu;split at hs;rotate_left;·cases hs
  rename_i hcond;simp only[zC,beq_iff_eq,List.contains_iff_mem]at hcond;obtain ⟨hsz,hlies⟩:=hcond;injection hs with hs;subst hs;obtain ⟨hr,hc⟩:=hvc;have hx0:=hx;simp only[VR]at hx;obtain ⟨i,hi,hz,rfl⟩:=hx;have hR:=zAJ h hF hi hz;obtain ⟨cs,fz,b1,b2,_,_⟩:=hR.cells;obtain ⟨ze,hze⟩:=hT _ _ hei;obtain ⟨zu,hzu⟩:=hT _ _ hu;obtain ⟨j,hj,_⟩:=hzu.sx.info;obtain ⟨je,hje,_,hje2,_⟩:=hze.sx.info;have hce:P.cellsOf e=wd:=by simp[Program.cellsOf,hje,hje2,hsz]
  refine ⟨_,w,?_,Gives.still h rfl hx0⟩;refine Lib.run_from_unsafe (e:=e) (cells:=cs.size) w ⟨i.b,i.o+(r*i.wd+c),none⟩ hds hdd hj (by simp[World.shape?,b1]) ?_;have hd:P.depth=(P.depth-1)+1:=by unfold Program.depth;omega
  have hrow:=zME (hze.li _ hlies) (cs.size/P.cellsOf e) r (by
   rw[hce];have:i.n≤cs.size/wd:=by
    rw[Nat.le_div_iff_mul_le hR.wd_pos];omega
   have:=hR.le;omega)
  rw[hce]at hrow;rw[hd];unfold liesAt;simp only[hce,hR.o0,hR.wd_eq,zP,hrow,Bool.true_or]
 ·cases hs
def zBT(T:Tys)(nx:Nm)(t:TypeId)(l c:PV):Option Res:=
 match l,c,T.get t with
 | .int _ l,.int _ c,some {k:=.slice e,..}=>
  match T.get e with
  |some ei=>
   if ei.size==0 then none
   else some {vc:=0≤l∧c=l∧l*ei.bytes≤140737488355328∧l≤140737488355328,v:=.sl nx 0 l.toNat,upd:=[(nx,.rows e ei.size true true (List.replicate l.toNat ei.zero))],rd:=[]}
  |none=>none
 |_,_,_=>none
theorem zDo(hT:T.Ok P)(h:HRel E F w)(hE:E nx=none){t:TypeId}{l c:PV}{l' c':Value}{r:Res}
  (hs:zBT T nx t l c=some r)(hvc:r.vc)(hl:VR w (Zn E F w) E l l')(hc:VR w (Zn E F w) E c c'):∃v' w',(Instr.makeSlice t l' c').run P w= .ok v' w'∧Gives E F nx w r v' w':=by
 unfold zBT at hs;split at hs;rotate_left;·cases hs
 rename_i kl l kc c e _ _ _ _ _ hti;simp only[VR]at hl hc;subst hl;subst hc;split at hs;rotate_left;·cases hs
 rename_i ei hei;split at hs;·cases hs
 rename_i hsz;simp only[beq_iff_eq]at hsz;injection hs with hs;subst hs;obtain ⟨h1,rfl,h3,h4⟩:=hvc;obtain ⟨z0,ht⟩:=hT _ _ hti;obtain ⟨z,hte⟩:=hT _ _ hei;obtain ⟨d,hd,hk⟩:=ht.sx.desc;obtain rfl:=zAS hk;obtain ⟨x,hx,hx0,hx1,hx2⟩:=hte.sx.info;simp only at hx0 hx1 hx2;have hrun:=run_make (P:=P) w t e x z hd hx hx0 kl kc c c h1 (vF _) (by rw[hx2,Int.mul_comm];omega) (by omega);rw[hx1]at hrun;have hv0:=hte.vr w (Zn E F w) (EE E true);obtain ⟨g1,g2⟩:=VRl.get hv0;have hzs:=hte.zsz;have hrep:VRr w (Zn E F w) (EE E true) (List.replicate c.toNat ei.zero) 0 (madeCells z.cells (c.toNat*ei.size)).toList.toArray:=by
  have hR:=Sx.RowsA.replicate (E:=fun _=>none) (show Sx.dvl (fun _=>none) (cellsOf z)=some z.cells.toList by rw[zAD];exact Sx.zCs _ _ hte.sx.pl) (by rw[zAD];exact hte.one) c.toNat ei.size hte.sz;refine (zAM (wd:=ei.size) (by intro row hr;rw[qG hr];exact hzs)).2 fun r row k v hr hc'=>?_
  rw[uT]at hr;split at hr;rotate_left;·cases hr
  rename_i hrl;injection hr with hr;subst hr;obtain ⟨u,a1,a2⟩:=g2 k v hc';obtain ⟨v',b1,b2,b3⟩:=hR.cell r (cellsOf z) k u (by simp[hrl]) a1;have hpl:Sx.plain u=true:=by
   have:=hte.sx.pl;have hm:=zO a1;have key:∀l:List Value,Sx.zHb l=true→∀x∈l,Sx.plain x=true:=by
    intro l;induction l with
    |nil=>intro _ x hx;cases hx
    |cons a l ih=>
     intro hl x hx;simp only[Sx.zHb,zC]at hl;rcases List.mem_cons.1 hx with rfl|hx;·exact hl.1
     ·exact ih hl.2 x hx
   exact key _ this u hm
  rw[Sx.zD8 _ _ hpl]at b1;injection b1 with b1;subst b1;exact ⟨u,by rw[zP,wR,vZ];exact b3,b2,a2⟩
 have hlen:(madeCells z.cells (c.toNat*ei.size)).toList.length=(List.replicate c.toNat ei.zero).length*ei.size:=by simp[madeCells]
 have hS:=zUX (t:=e) (cap:=c.toNat) h hE (by omega) (by intro row hr;rw[qG hr];exact hzs) hlen hrep (by simp) (by unfold maxLen;omega) (rest:= #[]) (by simp) (0,0) (by simp);refine ⟨_,_,hrun,E.set nx ⟨w.heap.size,0,ei.size,c.toNat,false,none⟩,zHR (zUO _ _ _) rfl _,?_,FreshIn.set⟩;have q:(madeCells z.cells (c.toNat*ei.size)).toList.toArray++(#[]:Array Value)=madeCells z.cells (c.toNat*ei.size):=by simp
 rw[q]at hS;exact hS
end
end Go.Tx
end
section
namespace Go.Tx
open Go.Sx (TK tk zBe cellsOf zAB zAO zDm)
section
variable {P : Program} {T : Tys} {E : Env} {F : SF} {nx : Nm} {w : World} {Z : Nat → Prop}
def zDc:List PV→List PV→Int→Option PV
 | .int _ m::ks,v::vs,n=>if m=n then some v else zDc ks vs n
 |_::ks,_::vs,n=>zDc ks vs n
 |_,_,_=>none
def zJm(ks:List PV)(vs:List PV)(n:Int):List PV:=if (zDc ks vs n).isSome then ks else ks++[.int .i64 n]
def zHS:List PV→List PV→Int→PV→List PV
 | .int _ m::ks,u::vs,n,v=>if m=n then v::vs else u::zHS ks vs n v
 |_::ks,u::vs,n,v=>u::zHS ks vs n v
 |_,vs,_,v=>vs++[v]
def intKeys(ks:List PV):Prop:=∀k∈ks,∃m,k= .int .i64 m
def zMF(i:TI):PV:=if zBp i then .agg i.zero else i.zero.getD 0 zAN
def zB5(T:Tys)(nx:Nm)(t:TypeId):Option Res:=
 match T.get t with
 |some {k:=.map _ _,..}=>some ⟨True,.mp nx,[(nx,.map true true [] [])],[]⟩
 |_=>none
def zDN(ei:TI)(ks vs:List PV)(n:Int)(ok:Bool)(rd:List Nm):Res:=
 ⟨intKeys ks,if ok then .tup [(zDc ks vs n).getD (zMF ei),.bool (zDc ks vs n).isSome] else (zDc ks vs n).getD (zMF ei),[],rd⟩
def zCL(T:Tys)(F:SF)(t:TypeId)(x i:PV)(ok:Bool):Option Res:=
 match T.get t,i with
 | some {k:=.map kt et,..},.int .i64 n=>
  match T.get kt,T.get et with
  |some {k:=.int .i64,..},some ei=>
   match x with
   | .mp r=>match F r with|some (.map _ _ ks vs)=>some (zDN ei ks vs n ok [r])|_=>none
   | .fm ks vs=>some (zDN ei ks vs n ok [])
   |_=>none
  |_,_=>none
 |_,_=>none
def zAz(T:Tys)(F:SF)(t:TypeId)(x i v:PV):Option Res:=
 match T.get t,x,i with
 |some {k:=.map kt _,..},.mp r,.int .i64 n=>
  match T.get kt,F r with
  |some {k:=.int .i64,..},some (.map true p ks vs)=>some ⟨intKeys ks,zAN,[(r,.map true (p&&nf v) (zJm ks vs n) (zHS ks vs n v))],[r]⟩
  |_,_=>none
 |_,_,_=>none
def zMG:Value→Bool
 | .agg _=>true
 |_=>false
theorem zPq{t:TypeId}{ti:TI}{z:Value}(ht:TOk P t ti z)(w:World)(Z:Nat→Prop)(E:Env):VR w Z E (zMF ti) z:=by
 have hv:=ht.vr w Z E;have hone:=ht.sx.one;have e:zBe ti.k=zMG z:=by
  have hagg:=ht.sx.agg
  revert hagg
  cases ti.k<;>exact fun h=>h
 unfold zMF zBp;rw[e];clear e;cases z with
 |agg cs=>
  simp only[zMG,if_true,VR];obtain ⟨l⟩:=cs;exact ⟨l,rfl,by simpa[cellsOf] using hone,hv⟩
 |_=>
  simp only[zMG,wC,if_false];obtain ⟨g1,g2⟩:=VRl.get hv;simp only[cellsOf,List.length_singleton]at g1;obtain ⟨v',a1,a2⟩:=g2 0 _ (zAO zAN (by omega));simp[cellsOf]at a1;subst a1;exact a2
def Found(w:World)(Z:Nat→Prop)(E:Env)(n:Int)(ks vs:List PV)(l:List MapEntry)(i:Nat):Option (Nat×Value)→Prop
 |none=>zDc ks vs n=none∧(∀v,zHS ks vs n v=vs++[v])
 | some ju=>i≤ju.1∧∃(v:PV) (e:MapEntry),zDc ks vs n=some v∧VR w Z E v ju.2∧l[ju.1-i]?=some e∧e.key= .int .i64 n∧
   (∀(x:PV) (y:Value),VR w Z E x y→VRl w Z E vs ((l.modify (ju.1-i) (fun e=>{e with key:=.int .i64 n,val:=y})).map (·.val))∨True)∧
   (∀(w2:World) (Z2:Nat→Prop) (E2:Env) (x:PV) (y:Value),VR w2 Z2 E2 x y→VRl w2 Z2 E2 ks (l.map (·.key))→VRl w2 Z2 E2 vs (l.map (·.val))→
    VRl w2 Z2 E2 ks ((l.modify (ju.1-i) (fun e=>{e with key:=.int .i64 n,val:=y})).map (·.key))∧VRl w2 Z2 E2 (zHS ks vs n x) ((l.modify (ju.1-i) (fun e=>{e with key:=.int .i64 n,val:=y})).map (·.val)))
theorem zJl{n:Int}:∀{l:List MapEntry} {ks vs:List PV} (i:Nat),VRl w Z E ks (l.map (·.key))→VRl w Z E vs (l.map (·.val))→intKeys ks→
  ∃a:Option (Nat×Value),Instr.findNow (.int .i64) (.int .i64 n) l i=some a∧Found w Z E n ks vs l i a
 | [],ks,vs,i,h1,h2,_=>by
  have e1:ks=[]:=vI (by simpa using (VRl.get h1).1.symm);have e2:vs=[]:=vI (by simpa using (VRl.get h2).1.symm);subst e1;subst e2;exact ⟨none,rfl,rfl,fun _=>rfl⟩
 |e::l,[],vs,i,h1,h2,_=>by simp[VRl]at h1
 |e::l,k::ks,[],i,h1,h2,_=>by simp[VRl]at h2
 | e::l,k::ks,u::vs,i,h1,h2,hk=>by
  obtain ⟨m,rfl⟩:=hk k (by simp);simp only[zL,VRl]at h1 h2;obtain ⟨_,_,he1,hv1,h1⟩:=h1;obtain ⟨_,_,he2,hv2,h2⟩:=h2;injection he1 with q1 q2;subst q1;subst q2;injection he2 with q1 q2;subst q1;subst q2;have hv1:e.key= .int .i64 m:=by simpa only[VR] using hv1
  have hkk:intKeys ks:=fun x hx=>hk x (by simp[hx])
  by_cases hmn:m=n
  ·subst hmn;refine ⟨some (i,e.val),by simp[Instr.findNow,Instr.sameNow,hv1],zH _,u,e,by simp[zDc],hv2,by simp,hv1,fun _ _ _=>.inr trivial,?_⟩;intro w2 Z2 E2 x y hx g1 g2;simp only[Nat.sub_self,List.modify_zero_cons,zL,VRl,zHS,if_true]at g1 g2 ⊢;obtain ⟨_,_,he1,_,g1⟩:=g1;obtain ⟨_,_,he2,_,g2⟩:=g2;injection he1 with q1 q2;subst q2;injection he2 with q1 q2;subst q2;exact ⟨⟨_,_,rfl,by simp[VR],g1⟩,⟨_,_,rfl,hx,g2⟩⟩
  ·obtain ⟨a,q1,q2⟩:=zJl (n:=n) (i+1) h1 h2 hkk;refine ⟨a,by simp[Instr.findNow,Instr.sameNow,hv1,show (n==m)=false by simp[Ne.symm hmn],q1],?_⟩;cases a with
   |none=>exact ⟨by simp[zDc,hmn,q2.1],fun v=>by simp[zHS,hmn,q2.2 v]⟩
   |some ju=>
    obtain ⟨j,x⟩:=ju;obtain ⟨a1,v,e',a2,a3,a4,a5,_,a6⟩:=q2;have hj:j-i=(j-(i+1))+1:=by omega
    refine ⟨by omega,v,e',by simp[zDc,hmn,a2],a3,by rw[hj];simpa using a4,a5,fun _ _ _=>.inr trivial,?_⟩;intro w2 Z2 E2 x y hx g1 g2;rw[hj];simp only[List.modify_succ_cons,zL,VRl,zHS,if_neg hmn]at g1 g2 ⊢;obtain ⟨_,_,he1,r1,g1⟩:=g1;obtain ⟨_,_,he2,r2,g2⟩:=g2;injection he1 with q1 q2;subst q1;subst q2;injection he2 with q1 q2;subst q1;subst q2;obtain ⟨b1,b2⟩:=a6 w2 Z2 E2 x y hx g1 g2;exact ⟨⟨_,_,rfl,r1,b1⟩,⟨_,_,rfl,r2,b2⟩⟩
theorem zE4(h:HRel E F w)(hE:E nx=none){t:TypeId}{r:Res}(hs:zB5 T nx t=some r):∃v' w',(Instr.makeMap t none).run P w= .ok v' w'∧Gives E F nx w r v' w':=by
 unfold zB5 at hs;split at hs;rotate_left;·cases hs
 injection hs with hs;subst hs;refine ⟨.map (some w.heap.size),w.alloc (.map #[] 0),by simp[Instr.makeMap,Result.andThen],E.set nx ⟨w.heap.size,0,1,0,false,none⟩,?_,zUY h hE (.map #[] 0) _ _ rfl (fun Z' _=>?_),FreshIn.set⟩;·simp only[VR];exact ⟨_,zUO _ _ _,rfl,rfl⟩
 ·exact ⟨_,zUO _ _ _,rfl,#[],0,(MapKept.heap_alloc w _).1,by simp[MRel,VRl]⟩
theorem zHh(hT:T.Ok P){t kt et:TypeId}{ti ki ei:TI}(hti:T.get t=some ti)(hk:ti.k= .map kt et)(hki:T.get kt=some ki)(hkk:ki.k= .int .i64)(hei:T.get et=some ei){r:Nat}{ents:Array MapEntry}{clk:Nat}(hb:w.heap[r]?=some (.map ents clk))
  {ks vs:List PV}(hm:MRel w Z E ents ks vs)(hkeys:intKeys ks)(n:Int)(ok:Bool)(rd:List Nm):
  ∃v',(Instr.lookup t (.map (some r)) (.int .i64 n) ok).run P w= .ok v' w∧VR w Z E (zDN ei ks vs n ok rd).v v':=by
 obtain ⟨z1,h1⟩:=hT _ _ hti;obtain ⟨z2,h2⟩:=hT _ _ hki;obtain ⟨z3,h3⟩:=hT _ _ hei;obtain ⟨d,hd,hkd⟩:=h1.sx.desc;simp only[hk]at hkd;obtain rfl:=zDm hkd;obtain ⟨d2,hd2,hkd2⟩:=h2.sx.desc;simp only[hkk]at hkd2;have hd2':d2= .int .i64:=by cases d2<;>simp[tk]at hkd2;rw[hkd2]
 subst hd2';obtain ⟨a,q1,q2⟩:=zJl (n:=n) 0 hm.1 hm.2 hkeys;have hz:(zeroValue et).run P w= .ok z3 w:=h3.run_zeroValue w;have hik:MapKept.IsKey (.int .i64) (.int .i64 n):=by simp[MapKept.IsKey]
 cases a with
 | none=>
  refine ⟨if ok then .tuple #[z3,.bool false] else z3,?_,?_⟩;·simp[Instr.lookup,run_underlying hd,MapKept.run_getObj_map hb,MapKept.run_checkKey hd2 hik,MapKept.run_findKey hd2 q1,hz,Result.andThen]
  ·have:=zPq h3 w Z E;cases ok with
   |false=>simpa[zDN,q2.1] using this
   |true=>
    simp only[zDN,q2.1,if_true,VR,Option.getD_none,vM];exact ⟨[z3,.bool false],rfl,by simp only[VRl];exact ⟨_,_,rfl,this,_,_,rfl,by simp[VR],rfl⟩⟩
 | some ju=>
  obtain ⟨_,v,e,a2,a3,_⟩:=q2;refine ⟨if ok then .tuple #[ju.2,.bool true] else ju.2,?_,?_⟩;·simp[Instr.lookup,run_underlying hd,MapKept.run_getObj_map hb,MapKept.run_checkKey hd2 hik,MapKept.run_findKey hd2 q1,Result.andThen]
  ·cases ok with
   |false=>simpa[zDN,a2] using a3
   |true=>
    simp only[zDN,a2,if_true,VR,vT,wX];exact ⟨[ju.2,.bool true],rfl,by simp only[VRl];exact ⟨_,_,rfl,a3,_,_,rfl,by simp[VR],rfl⟩⟩
theorem zF0(hT:T.Ok P)(h:HRel E F w){t:TypeId}{x k:PV}{x' k':Value}{ok:Bool}{r:Res}(hs:zCL T F t x k ok=some r)(hvc:r.vc)(hx:VR w (Zn E F w) E x x')(hk:VR w (Zn E F w) E k k'):
  ∃v',(Instr.lookup t x' k' ok).run P w= .ok v' w∧Gives E F nx w r v' w:=by
 unfold zCL at hs;split at hs;rotate_left;·cases hs
 rename_i kt et _ _ _ _ _ n hti;simp only[VR]at hk;subst hk;split at hs;rotate_left;·cases hs
 rename_i _ _ _ _ _ ei hki hei;split at hs
 ·rename_i rr;split at hs;rotate_left;·cases hs
  rename_i own p ks vs hF;injection hs with hs;subst hs;simp only[VR]at hx;obtain ⟨j,hj,_,rfl⟩:=hx;obtain ⟨i,hi,hz,ents,clk,hb,hm⟩:=h.blk _ _ hF;rw[hj]at hi;injection hi with hi;subst hi;obtain ⟨v',r1,r2⟩:=zHh hT hti rfl hki rfl hei hb hm hvc n ok [rr];exact ⟨v',r1,Gives.still h rfl (VR.up r2)⟩
 ·rename_i ks vs;injection hs with hs;subst hs;simp only[VR]at hx;obtain ⟨rr,ents,clk,rfl,_,hb,q1,q2⟩:=hx;obtain ⟨v',r1,r2⟩:=zHh hT hti rfl hki rfl hei hb ⟨q1,q2⟩ hvc n ok [];exact ⟨v',r1,Gives.still h rfl (VR.mono ⟨zUT _,fun _ h=>h,fun _ _=>rfl⟩ _ _ r2)⟩
 ·cases hs
theorem VRl.snoc{l:List PV}{l':List Value}{x:PV}{v:Value}(h:VRl w Z E l l')(hv:VR w Z E x v):VRl w Z E (l++[x]) (l'++[v]):=
 VRl.append h (by simp only[VRl];exact ⟨v,[],rfl,hv,rfl⟩)
theorem zUg(h:HRel E F w){n:Nm}{p p':Bool}{ks vs ks' vs':List PV}{i:BI}(hF:F n=some (.map true p ks vs))(hi:E n=some i)(hz:i.z=false){ents:Array MapEntry}{clk:Nat}
  (hm:∀(w2:World) (Z2:Nat→Prop),Ext E w (Zn E F w) E w2 Z2→MRel w2 Z2 (EE E p') ents ks' vs')(hb:i.b<w.heap.size):
  StepR E F w E (F.set n (.map true p' ks' vs')) {w with heap:=w.heap.setIfInBounds i.b (.map ents clk)}:=by
 refine zUi h hF rfl rfl hi hz (fun k hk=>by simp[Ne.symm hk]) (by simp) rfl rfl rfl fun hX=>?_
 exact ⟨i,hi,hz,ents,clk,by simp[hb],hm _ _ hX⟩
theorem zCY(hT:T.Ok P)(h:HRel E F w){t:TypeId}{x k v:PV}{x' k' v':Value}{r:Res}(hs:zAz T F t x k v=some r)(hvc:r.vc)(hx:VR w (Zn E F w) E x x')(hk:VR w (Zn E F w) E k k')(hv:VR w (Zn E F w) E v v'):
  ∃w',(Instr.mapUpdate t x' k' v').run P w= .ok () w'∧Gives E F nx w r undef w':=by
 unfold zAz at hs;split at hs;rotate_left;·cases hs
 rename_i kt et _ _ _ _ _ rr n hti;split at hs;rotate_left;·cases hs
 rename_i _ _ _ _ _ p ks vs hki hF;injection hs with hs;subst hs;simp only at hvc;simp only[VR]at hk hx;subst hk;obtain ⟨j,hj,_,rfl⟩:=hx;obtain ⟨i,hi,hz,ents,clk,hb,hm⟩:=h.blk _ _ hF;rw[hj]at hi;injection hi with hi;subst hi;obtain ⟨z1,h1⟩:=hT _ _ hti;obtain ⟨z2,h2⟩:=hT _ _ hki;obtain ⟨d,hd,hkd⟩:=h1.sx.desc;obtain rfl:=zDm hkd;obtain ⟨d2,hd2,hkd2⟩:=h2.sx.desc;have hd2':d2= .int .i64:=by cases d2<;>simp[tk]at hkd2;rw[hkd2]
 subst hd2';obtain ⟨a,q1,q2⟩:=zJl (n:=n) 0 hm.1 hm.2 hvc;have hik:MapKept.IsKey (.int .i64) (.int .i64 n):=by simp[MapKept.IsKey]
 have hlt:=zBl hb;have ext1:∀(w2:World) (Z2:Nat→Prop),Ext E w (Zn E F w) E w2 Z2→Ext (EE E p) w (Zn E F w) (EE E (p&&nf v)) w2 Z2:=by
  intro w2 Z2 hX;refine ⟨?_,hX.zone,hX.heap⟩;cases p with
  |true=>exact zUT _
  |false=>exact Env.le.refl _
 have ext2:∀(w2:World) (Z2:Nat→Prop),Ext E w (Zn E F w) E w2 Z2→VR w2 Z2 (EE E (p&&nf v)) v v':=by
  intro w2 Z2 hX;have:=VR.mono hX _ _ hv;cases hp:(p&&nf v) with
  |false=>exact this
  |true=>simp only[zC]at hp;exact VR.nf v v' hp.2 this
 cases a with
 |none=>
  refine ⟨_,by simp[Instr.mapUpdate,run_underlying hd,MapKept.run_getObj_map hb,MapKept.run_checkKey hd2 hik,MapKept.run_findKey hd2 q1,MapKept.run_setObj_map _ hb,Result.andThen];rfl,E,zBr,zUg h hF hj hz (fun w2 Z2 hX=>?_) hlt,FreshIn.refl _ _⟩;have e1:zJm ks vs n=ks++[.int .i64 n]:=by simp[zJm,q2.1]
  rw[e1,q2.2 v];have m1:=VRl.mono (ext1 w2 Z2 hX) _ _ hm.1;have m2:=VRl.mono (ext1 w2 Z2 hX) _ _ hm.2;refine ⟨?_,?_⟩
  ·simp only[Array.toList_push,wQ,zL,wM];exact m1.snoc (by simp[VR])
  ·simp only[Array.toList_push,wQ,zL,wM];exact m2.snoc (ext2 w2 Z2 hX)
 |some ju=>
  obtain ⟨j',u⟩:=ju;obtain ⟨_,v0,e,a2,a3,a4,a5,_,a6⟩:=q2;simp only[vH]at a4 a6;have hj':ents[j']?=some e:=by simpa using a4
  refine ⟨_,by simp[Instr.mapUpdate,run_underlying hd,MapKept.run_getObj_map hb,MapKept.run_checkKey hd2 hik,MapKept.run_findKey hd2 q1,hj',a5,MapKept.run_keyThatStays hik,MapKept.run_setObj_map _ hb,Result.andThen];rfl,E,zBr,zUg h hF hj hz (fun w2 Z2 hX=>?_) hlt,FreshIn.refl _ _⟩;have e1:zJm ks vs n=ks:=by simp[zJm,a2]
  rw[e1];have m1:=VRl.mono (ext1 w2 Z2 hX) _ _ hm.1;have m2:=VRl.mono (ext1 w2 Z2 hX) _ _ hm.2;obtain ⟨b1,b2⟩:=a6 w2 Z2 _ v v' (ext2 w2 Z2 hX) m1 m2;exact ⟨by rw[Array.toList_modify];exact b1,by rw[Array.toList_modify];exact b2⟩
end
end Go.Tx
end
section
namespace Go.Tx
open Go.Sx (TK tk zBe cellsOf zAD zAB zAO zDm zCJ zBM zAS zCX zF7 zAw zA5 zH4 zAE)
section
variable {P : Program} {T : Tys} {E : Env} {F : SF} {nx : Nm} {w : World} {Z : Nat → Prop}
def zDl(place:Nat→Option (Nat×Nat))(cells:List PV):List (Nat×PV)→Option (Prop×List PV)
 | []=>some (True,cells)
 | (i,v)::rest=>
  match place i,zGb v with
  |some (off,size),some vs=>
   match zDl place (putAt cells off vs) rest with
   |none=>none
   |some (p,cs)=>some (vs.length=size∧off+size≤cells.length∧p,cs)
  |_,_=>none
inductive PRel (w:World) (Z:Nat→Prop) (E:Env):List (Nat×PV)→List (Nat×Value)→Prop
 |nil:PRel w Z E [] []
 |cons {i:Nat} {v:PV} {v':Value} {l:List (Nat×PV)} {l':List (Nat×Value)} (h:VR w Z E v v') (t:PRel w Z E l l'):PRel w Z E ((i,v)::l) ((i,v')::l')
theorem VRl.put{cells:List PV}{cells':List Value}{vs:List PV}{vs':List Value}(h:VRl w Z E cells cells')(hv:VRl w Z E vs vs'){c:Nat}(hc:c+vs.length≤cells.length):VRl w Z E (putAt cells c vs) (zF7 cells'.toArray c vs').toList:=by
 obtain ⟨g1,g2⟩:=VRl.get h;obtain ⟨k1,k2⟩:=VRl.get hv;refine VRl.of (by rw[vA,zAw,zBQ _ _ _ hc];simpa using g1) fun j x v hx hv'=>?_
 rw[vZ,zA5 _ _ _ _ (by simp;omega)]at hv';rw[zCr _ _ _ hc]at hx;by_cases hin:c≤j∧j<c+vs.length
 ·rw[if_pos hin]at hx;rw[if_pos (by omega)]at hv';obtain ⟨u,a1,a2⟩:=k2 _ _ hx;rw[hv']at a1;injection a1 with a1;subst a1;exact a2
 ·rw[if_neg hin]at hx;rw[if_neg (by omega)]at hv';obtain ⟨u,a1,a2⟩:=g2 _ _ hx;rw[wR,a1]at hv';injection hv' with hv';subst hv';exact a2
theorem zCv{place place':Nat→Option (Nat×Nat)}(hpl:∀i o,place i=some o→place' i=some o):∀{parts:List (Nat×PV)} {parts':List (Nat×Value)},PRel w Z E parts parts'→∀{cells:List PV} {cells':Array Value} {p:Prop} {cs:List PV},
  zDl place cells parts=some (p,cs)→p→VRl w Z E cells cells'.toList→(∀u∈cells'.toList,u.oneCell'=true)→
  ∃cs',Instr.fill place' cells' parts'=some cs'∧VRl w Z E cs cs'.toList∧(∀u∈cs'.toList,u.oneCell'=true):=by
 intro parts parts' hP;induction hP with
 |nil=>
  intro cells cells' p cs h hp hd h1;simp only[zDl,zZ,wL]at h;obtain ⟨_,rfl⟩:=h;exact ⟨cells',rfl,hd,h1⟩
 | @cons i v v' l l' hv _ ih=>
  intro cells cells' p cs h hp hd h1;simp only[zDl]at h;split at h;rotate_left;·cases h
  rename_i off size vs hp1 hvs;split at h;·cases h
  rename_i q cs0 hq;simp only[zZ,wL]at h;obtain ⟨rfl,rfl⟩:=h;obtain ⟨p1,p2,p3⟩:=hp;obtain ⟨c1,c2⟩:=zGM hv hvs;have hlv:(cellsOf v').length=size:=by rw[(VRl.get c1).1,p1]
  have hlc:=(VRl.get hd).1;simp only[vA]at hlc;have hd':=VRl.put hd c1 (c:=off) (by omega);obtain ⟨cs',r1,r2,r3⟩:=ih hq p3 hd' (zH4 (by simpa using h1) _ _ c2 (by simp;omega));refine ⟨cs',?_,r2,r3⟩;have hsz:v'.cells.size=size:=by rw[←vA,zAD,hlv]
  simp only[Instr.fill,hpl _ _ hp1];rw[if_neg (by simp[hsz];omega)];rw[←r1];congr 1;simpa using zCX off v' cells'
def zDp(T:Tys):Prop:=∀t i fs,T.get t=some i→i.k= .struct fs→∀f∈fs,∃fi,T.get f.2=some fi
def zDK(T:Tys)(t:TypeId)(parts:List (Nat×PV)):Option Res:=
 match T.get t with
 | some ti=>
  match ti.k with
  | .struct fs=>
   match zDl (fun i=>(fs[i]?).bind fun f=>(T.get f.2).map fun fi=>(f.1,fi.size)) ti.zero parts with
   |some (p,cs)=>some (zAH p (.agg cs))
   |none=>none
  | .array _ e=>
   match T.get e with
   |some ei=>
    match zDl (fun i=>some (i*ei.size,ei.size)) ti.zero parts with
    |some (p,cs)=>some (zAH p (.agg cs))
    |none=>none
   |none=>none
  |_=>none
 |none=>none
theorem zEk(hT:T.Ok P)(a:List Field){fs:List (Nat×TypeId)}(h:a.map (fun f=>(f.offset,f.type))=fs)(hall:∀f∈fs,∃fi,T.get f.2=some fi):
  (a.mapM (fun f=>do pure (f.offset,←sizeOf f.type):Field→Sem (Nat×Nat))).run P w= .ok (fs.map fun f=>(f.1,((T.get f.2).map (·.size)).getD 0)) w:=by
 induction a generalizing fs with
 |nil=>simp at h;subst h;simp
 |cons f l ih=>
  simp at h;subst h;obtain ⟨fi,hfi⟩:=hall (f.offset,f.type) (by simp);obtain ⟨z,ht⟩:=hT _ _ hfi;have hz:=ht.run_sizeOf w;have ih':=ih rfl (fun g hg=>hall g (by simp[hg]));simp only[List.mapM_cons,zB,hz,zD,zI,ih',zL,hfi,wJ,vT]
theorem zGh(hT:T.Ok P)(hall:zDp T)(h:HRel E F w){t:TypeId}{parts:List (Nat×PV)}{parts':List (Nat×Value)}{r:Res}
  (hs:zDK T t parts=some r)(hvc:r.vc)(hp:PRel w (Zn E F w) E parts parts'):∃v',(Instr.build t parts'.toArray).run P w= .ok v' w∧Gives E F nx w r v' w:=by
 unfold zDK at hs;split at hs;rotate_left;·cases hs
 rename_i ti hti;obtain ⟨z,ht⟩:=hT _ _ hti;obtain ⟨d,hd,hk⟩:=ht.run_underlying w;have hz0:VRl w (Zn E F w) E ti.zero z.cells.toList:=by rw[zAD];exact ht.vr _ _ _
 have hz1:∀u∈z.cells.toList,u.oneCell'=true:=by rw[zAD];exact ht.one
 split at hs
 ·rename_i fs hfs;split at hs;rotate_left;·cases hs
  rename_i p cs hfill;injection hs with hs;subst hs;rw[hfs]at hk;obtain ⟨a,rfl,ha⟩:=zCJ hk;have hpl:=zEk (w:=w) hT a.toList ha (hall _ _ _ hti hfs);obtain ⟨cs',r1,r2,r3⟩:=zCv (place':=fun i=>((fs.map fun f=>(f.1,((T.get f.2).map (·.size)).getD 0)).toArray)[i]?) (by
   intro i o ho;simp only[zM,zV]at ho;obtain ⟨f,h1,fi,h2,rfl⟩:=ho;simp[h1,h2]) hp hfill hvc hz0 hz1
  refine ⟨.agg cs',?_,Gives.still h rfl ?_⟩
  ·simp only[Instr.build,zB,ht.run_zeroValue w,zD,hd,Array.mapM_eq_mapM_toList,Sem.run_map,hpl];rw[r1];rfl
  ·simp only[zAH,VR];exact ⟨cs'.toList,by simp,r3,r2⟩
 ·rename_i n e hfs;split at hs;rotate_left;·cases hs
  rename_i ei hei;split at hs;rotate_left;·cases hs
  rename_i p cs hfill;injection hs with hs;subst hs;rw[hfs]at hk;obtain rfl:=zBM hk;obtain ⟨ze,hte⟩:=hT _ _ hei;obtain ⟨cs',r1,r2,r3⟩:=zCv (place':=fun i=>some (i*ei.size,ei.size)) (fun _ _ h=>h) hp hfill hvc hz0 hz1;refine ⟨.agg cs',?_,Gives.still h rfl ?_⟩
  ·simp only[Instr.build,zB,ht.run_zeroValue w,zD,hd,hte.run_sizeOf w];rw[r1];rfl
  ·simp only[zAH,VR];exact ⟨cs'.toList,by simp,r3,r2⟩
 ·cases hs
def zF9(rows:List (List PV))(size:Nat):List (Nat×PV)→Option (Prop×List (List PV))
 | []=>some (True,rows)
 | (i,v)::rest=>
  match zGb v with
  |some vs=>
   match zF9 (rows.set i vs) size rest with
   |none=>none
   |some (p,rs)=>some (vs.length=size∧i<rows.length∧p,rs)
  |none=>none
def zBE(T:Tys)(nx:Nm)(t:TypeId)(len:Nat)(parts:List (Nat×PV)):Option Res:=
 match T.get t with
 | some {k:=.slice e,..}=>
  match T.get e with
  |some ei=>
   if ei.size==0||decide (16777216<len*ei.size) then none else
   match zF9 (List.replicate len ei.zero) ei.size parts with
   |some (p,rs)=>some {vc:=p,v:=.sl nx 0 len,upd:=[(nx,.rows e ei.size true (rs.all nfl) rs)],rd:=[]}
   |none=>none
  |none=>none
 |_=>none
theorem zEl{size:Nat}:∀{parts:List (Nat×PV)} {parts':List (Nat×Value)},PRel w Z E parts parts'→∀{rows:List (List PV)} {cs:Array Value} {p:Prop} {rs:List (List PV)},
  zF9 rows size parts=some (p,rs)→p→(∀row∈rows,row.length=size)→cs.size=rows.length*size→VRr w Z E rows 0 cs→
  ∃cs',Instr.fill (fun i=>some (i*size,size)) cs parts'=some cs'∧(∀row∈rs,row.length=size)∧cs'.size=rs.length*size∧VRr w Z E rs 0 cs'∧rs.length=rows.length:=by
 intro parts parts' hP;induction hP with
 |nil=>
  intro rows cs p rs h hp h1 h2 h3;simp only[zF9,zZ,wL]at h;obtain ⟨_,rfl⟩:=h;exact ⟨cs,rfl,h1,h2,h3,rfl⟩
 | @cons i v v' l l' hv _ ih=>
  intro rows cs p rs h hp h1 h2 h3;simp only[zF9]at h;split at h;rotate_left;·cases h
  rename_i vs hvs;split at h;·cases h
  rename_i q rs0 hq;simp only[zZ,wL]at h;obtain ⟨rfl,rfl⟩:=h;obtain ⟨p1,p2,p3⟩:=hp;obtain ⟨c1,c2⟩:=zGM hv hvs;have hlv:(cellsOf v').length=size:=by rw[(VRl.get c1).1,p1]
  have hm:(i+1)*size≤rows.length*size:=wN _ p2;have he:(i+1)*size=i*size+size:=wV i size;have hrow:=zS p2;have hput:putAt (rows[i]) 0 vs=vs:=by
   have:=h1 _ (uH p2);simp[putAt];omega
  obtain ⟨q1,q2⟩:=VRr.put h1 h3 hrow (c:=0) (by omega) c1 c2 (by omega);rw[hput]at q1 q2;simp only[zP,wH]at q2;obtain ⟨cs',r1,r2,r3,r4,r5⟩:=ih hq p3 q1 (by rw[zAw,List.length_set];exact h2) q2;refine ⟨cs',?_,r2,r3,r4,by simpa using r5⟩;have hszv:v'.cells.size=size:=by rw[←vA,zAD,hlv]
  simp only[Instr.fill];rw[if_neg (by simp[hszv];omega)];rw[←r1];congr 1;exact zCX (i*size) v' cs
theorem zDb(hT:T.Ok P)(h:HRel E F w)(hE:E nx=none){t:TypeId}{len:Nat}{parts:List (Nat×PV)}{parts':List (Nat×Value)}{r:Res}
  (hs:zBE T nx t len parts=some r)(hvc:r.vc)(hp:PRel w (Zn E F w) E parts parts'):∃v' w',(Instr.buildSlice t len parts'.toArray).run P w= .ok v' w'∧Gives E F nx w r v' w':=by
 unfold zBE at hs;split at hs;rotate_left;·cases hs
 rename_i e _ _ _ _ _ hti;split at hs;rotate_left;·cases hs
 rename_i ei hei;split at hs;·cases hs
 rename_i hsz;simp only[vV,beq_iff_eq,decide_eq_true_eq,not_or]at hsz;split at hs;rotate_left;·cases hs
 rename_i p rs hfill;injection hs with hs;subst hs;obtain ⟨z,ht⟩:=hT _ _ hti;obtain ⟨ze,hte⟩:=hT _ _ hei;obtain ⟨d,hd,hk⟩:=ht.run_underlying w;obtain rfl:=zAS hk;have hv0:=hte.vr w (Zn E F w) E;obtain ⟨g1,g2⟩:=VRl.get hv0;have hR:=Sx.RowsA.replicate (E:=fun _=>none) (show Sx.dvl (fun _=>none) (cellsOf ze)=some ze.cells.toList by rw[zAD];exact Sx.zCs _ _ hte.sx.pl) (by rw[zAD];exact hte.one) len ei.size hte.sz;have hrep:VRr w (Zn E F w) E (List.replicate len ei.zero) 0 ((Array.range (len*ei.size)).map fun i=>ze.cells[i%ze.cells.size]!):=by
  refine (zAM (wd:=ei.size) (by intro row hr;rw[qG hr];exact hte.zsz)).2 fun r row k v hr hc'=>?_
  rw[uT]at hr;split at hr;rotate_left;·cases hr
  rename_i hrl;injection hr with hr;subst hr;obtain ⟨u,a1,a2⟩:=g2 k v hc';obtain ⟨v',b1,b2,b3⟩:=hR.cell r (cellsOf ze) k u (by simp[hrl]) a1;have hpl:Sx.plain u=true:=by
   have:=hte.sx.pl;have hm:=zO a1;have key:∀l:List Value,Sx.zHb l=true→∀x∈l,Sx.plain x=true:=by
    intro l;induction l with
    |nil=>intro _ x hx;cases hx
    |cons a l ih=>
     intro hl x hx;simp only[Sx.zHb,zC]at hl;rcases List.mem_cons.1 hx with rfl|hx;·exact hl.1
     ·exact ih hl.2 x hx
   exact key _ this u hm
  rw[Sx.zD8 _ _ hpl]at b1;injection b1 with b1;subst b1;exact ⟨u,by rw[zP];exact b3,b2,a2⟩
 obtain ⟨cs',r1,r2,r3,r4,r5⟩:=zEl hp hfill hvc (by intro row hr;rw[qG hr];exact hte.zsz) (by simp) hrep;simp only[List.length_replicate]at r5;have hcap:rs.length≤maxLen:=by
  have:len*1≤len*ei.size:=Nat.mul_le_mul_left _ (by omega);unfold maxLen;omega
 have hvv:VRr w (Zn E F w) (EE E (rs.all nfl)) rs 0 cs'.toList.toArray:=by
  cases hn:rs.all nfl with
  |false=>show VRr w (Zn E F w) E rs 0 cs'.toList.toArray;simpa using r4
  | true=>
   rw[wK]at hn;refine (zAM r2).2 fun r row c v hr hc=>?_
   obtain ⟨v',a1,a2,a3⟩:=(zAM r2).1 r4 r row c v hr hc;have h1:=hn row (zO hr);have key:∀l:List PV,nfl l=true→∀x∈l,nf x=true:=by
    intro l;induction l with
    |nil=>intro _ x hx;cases hx
    |cons a l ih=>
     intro hl x hx;simp only[nfl,zC]at hl;rcases List.mem_cons.1 hx with rfl|hx;·exact hl.1
     ·exact ih hl.2 x hx
   exact ⟨v',by simpa using a1,a2,VR.nf v v' (key _ h1 v (zO hc)) a3⟩
 have hS:=zUX (t:=e) (cap:=rs.length) h hE (by omega) r2 (cs:=cs'.toList) (by simpa using r3) hvv (zH _) hcap (rest:= #[]) (by simp) (0,0) (by simp);refine ⟨.slice (some ⟨w.heap.size,0,none⟩) len len,w.alloc (.cells cs' e),?_,E.set nx ⟨w.heap.size,0,ei.size,rs.length,false,none⟩,?_,?_,FreshIn.set⟩
 ·simp only[Instr.buildSlice,zB,hd,zD,hte.run_sizeOf w];rw[if_neg (by omega)];by_cases h0:len*ei.size=0
  ·rw[if_pos h0];rw[h0]at r1 ⊢;simp only[show Array.range 0= #[] from rfl,Array.map_empty]at r1;simp only[zB,zI,zD,show Array.range 0= #[] from rfl,Array.map_empty,r1];rfl
  ·rw[if_neg h0];simp only[zB,zI,zD,hte.run_zeroValue w,r1];rfl
 ·have:=zHR (w:=w.alloc (.cells cs' e)) (Z:=Zn (E.set nx ⟨w.heap.size,0,ei.size,rs.length,false,none⟩) (F.upd [(nx,.rows e ei.size true (rs.all nfl) rs)]) (w.alloc (.cells cs' e))) (zUO E nx ⟨w.heap.size,0,ei.size,rs.length,false,none⟩) rfl len;simpa[r5] using this
 ·have q:cs'.toList.toArray++(#[]:Array Value)=cs':=by simp
  rw[q]at hS;exact hS
end
end Go.Tx
end
section
namespace Go.Tx
open Go.Sx (TK tk zBe cellsOf zAD zAB)
def zBV(F:SF):PV→Option Res
 | .nilS=>some (zAH True .nilP)
 | .sl n r l=>match F n with|some (.rows _ _ _ _ rs)=>some {vc:=0<l∧r+l≤rs.length,v:=.ptr n r 0,upd:=[],rd:=[n]}|_=>none
 |_=>none
def zB6(T:Tys)(F:SF)(pt:TypeId):PV→PV→Option Res
 | .nilP,.int .i64 n=>some (zAH (n=0) (.str []))
 | .ptr nm 0 0,.int .i64 n=>
  match F nm,T.get pt with
  |some (.rows e 1 true p rs),some {k:=.ptr e',..}=>
   match T.get e with
   |some ei=>if e==e'&&ei.size==1 then some {vc:=0<n∧n≤rs.length∧rs.take n.toNat=(zBc (rs.take n.toNat)).map zBY,v:=.str (zBc (rs.take n.toNat)),upd:=[(nm,.rows e 1 false p rs)],rd:=[nm]} else none
   |none=>none
  |_,_=>none
 |_,_=>none
def zDO(T:Tys)(F:SF)(t:TypeId):PV→Option Res
 | .sl n r l=>match T.get t with
  | some {k:=.slice e,..}=>match T.get e with
   |some ei=>match F n with
    |some (.rows e' wd true p rs)=>if e'==e&&wd==ei.size&& !(ei.size==0) then some {vc:=r+l≤rs.length,v:=.tup [],upd:=[(n,.rows e' wd true p (rs.take r++List.replicate l ei.zero++rs.drop (r+l)))],rd:=[n]} else none
    |_=>none
   |none=>none
  |_=>none
 |_=>none
section
variable {P : Program} {T : Tys} {E : Env} {F : SF} {nx : Nm} {w : World}
theorem zEb{e:TypeId}{ei:TI}{z:Value}(ht:TOk P e ei z)(hsz:0<ei.size)(l:Nat){Z:Nat→Prop}:
  (Builtin.zeroCells z.cells l).toList.length=(List.replicate l ei.zero).length*ei.size∧(∀u∈(Builtin.zeroCells z.cells l).toList,u.oneCell'=true)∧VRr w Z Env.no (List.replicate l ei.zero) 0 (Builtin.zeroCells z.cells l).toList.toArray∧(∀row∈List.replicate l ei.zero,row.length=ei.size):=by
 have hcs:z.cells.size=ei.size:=by rw[←vA,zAD,ht.sx.sz]
 have hv0:=ht.vr w Z Env.no;obtain ⟨g1,g2⟩:=VRl.get hv0;have hzs:=ht.zsz;have hone:=ht.sx.one;have hrl:∀row∈List.replicate l ei.zero,row.length=ei.size:=by intro row hr;rw[qG hr];exact hzs
 have hget:∀(r k:Nat),r<l→k<ei.size→(Builtin.zeroCells z.cells l)[r*ei.size+k]?=(cellsOf z)[k]?:=by
  intro r k hr hk;have hm:(r+1)*ei.size≤l*ei.size:=wN _ hr;have he:(r+1)*ei.size=r*ei.size+ei.size:=wV r ei.size;have hlt:r*ei.size+k<l*ei.size:=by omega
  unfold Builtin.zeroCells;rw[hcs,Array.getElem?_map,Array.getElem?_range,if_pos hlt];simp only[wJ];rw[Nat.mul_add_mod_self_right,wD hk,←zAD,vZ,qH (by omega)];rw[getElem!_pos z.cells k (by omega)]
 refine ⟨by simp[Builtin.zeroCells,hcs],fun u hu=>?_,?_,hrl⟩
 ·obtain ⟨j,hj⟩:=vW hu;have hjl:=zAB hj;simp[Builtin.zeroCells,hcs]at hjl;have h1:j/ei.size<l:=Nat.div_lt_of_lt_mul (by rw[vL];exact hjl);have h2:j%ei.size<ei.size:=vE _ hsz;have h3:=hget (j/ei.size) (j%ei.size) h1 h2;rw[Nat.div_add_mod']at h3;rw[vZ,h3]at hj;exact List.all_eq_true.1 hone u (zO hj)
 ·refine (zAM hrl).2 fun r row k v hr hc=>?_
  rw[uT]at hr;split at hr;rotate_left;·cases hr
  rename_i hrl';injection hr with hr;subst hr;have hk:=zAB hc;obtain ⟨u,a1,a2⟩:=g2 k v hc;have h3:=hget r k hrl' (by omega);refine ⟨u,?_,List.all_eq_true.1 hone u (zO a1),a2⟩;rw[zP,wR,vZ,h3];exact a1
theorem zJn(hT:T.Ok P)(h:HRel E F w){t ty:TypeId}{x:PV}{x':Value}{r:Res}(hs:zDO T F t x=some r)(hvc:r.vc)(hx:VR w (Zn E F w) E x x'):
  ∃v' w',(Builtin.clear_ #[t] ty #[x']).run P w= .ok v' w'∧Gives E F nx w r v' w':=by
 unfold zDO at hs;split at hs;rotate_left;·cases hs
 rename_i n r0 l;split at hs;rotate_left;·cases hs
 rename_i e _ _ _ _ _ hti;split at hs;rotate_left;·cases hs
 rename_i ei hei;split at hs;rotate_left;·cases hs
 rename_i e' wd p rs hF;split at hs;rotate_left;·cases hs
 rename_i hc;simp only[zC,beq_iff_eq,qM,beq_eq_false_iff_ne,ne_eq]at hc;obtain ⟨⟨rfl,rfl⟩,hsz⟩:=hc;injection hs with hs;subst hs;obtain ⟨z0,ht0⟩:=hT _ _ hti;obtain ⟨d,hd,hk⟩:=ht0.sx.desc;obtain rfl:=Sx.zAS hk;obtain ⟨z,ht⟩:=hT _ _ hei;obtain ⟨ix,hix,hx0,hx1,hx2⟩:=ht.sx.info;simp only at hx0 hx1 hx2;have hsame:F.set n (.rows e' ei.size true p rs)=F:=by
  funext m;unfold SF.set;split;·rename_i he;subst he;exact hF.symm
  ·rfl
 simp only[VR]at hx;obtain ⟨i,hi,hor⟩:=hx;have hle0:r0+l≤rs.length:=hvc;have none0:∀a c,x'= .slice a 0 c→l=0→∃v' w',(Builtin.clear_ #[t] ty #[x']).run P w= .ok v' w'∧Gives E F nx w {vc:=r0+l≤rs.length,v:=.tup [],upd:=[(n,.rows e' ei.size true p (rs.take r0++List.replicate l ei.zero++rs.drop (r0+l)))],rd:=[n]} v' w':=by
  rintro a c rfl rfl
  refine ⟨.tuple #[],w,?_,E,?_,?_,FreshIn.refl _ _⟩
  ·cases a<;>simp[Builtin.clear_,run_underlying hd]
  ·simp only[VR];exact ⟨[],rfl,by simp[VRl]⟩
  ·simp only[SF.upd,List.replicate_zero,zK,wH,List.take_append_drop];rw[hsame];exact StepR.refl h
 rcases hor with ⟨hz,rfl,rfl⟩|⟨hz,rfl⟩;·exact none0 _ _ rfl rfl
 ·by_cases hl0:l=0;·subst hl0;exact none0 _ _ rfl rfl
  ·have hR:=zAJ h hF hi hz;rw[zDF (by omega)];obtain ⟨q1,q2,q3,q4⟩:=zEb (w:=w) (Z:=Zn E F w) ht (by omega) l;obtain ⟨w',e1,e2⟩:=zUp (P:=P) (px:=true) h hF hi hz q1 q2 q3 q4 (a:=r0) (by simpa using hle0);refine ⟨.tuple #[],w',?_,E,?_,?_,FreshIn.refl _ _⟩
   ·rw[hR.wd_eq];obtain ⟨m,rfl⟩:∃m,l=m+1:=⟨l-1,by omega⟩;simp[Builtin.clear_,run_underlying hd,zeroValue,typeInfo,hix,hx0,e1]
   ·simp only[VR];exact ⟨[],rfl,by simp[VRl]⟩
   ·simpa[SF.upd] using e2
theorem zGn(h:HRel E F w){ts:Array TypeId}{ty:TypeId}{x:PV}{x':Value}{r:Res}(hs:zBV F x=some r)(hvc:r.vc)(hx:VR w (Zn E F w) E x x'):
  ∃v',(Builtin.unsafeSliceData_ ts ty #[x']).run P w= .ok v' w∧Gives E F nx w r v' w:=by
 unfold zBV at hs;split at hs
 ·injection hs with hs;subst hs;simp only[VR]at hx;subst hx;exact ⟨.pointer none,rfl,Gives.still h rfl (by simp[zAH,VR])⟩
 ·rename_i n r l;split at hs;rotate_left;·cases hs
  rename_i e wd own p rs hF;injection hs with hs;subst hs;obtain ⟨h1,h2⟩:=hvc;simp only[VR]at hx;obtain ⟨i,hi,⟨_,h0,_⟩|⟨hz,rfl⟩⟩:=hx;·omega
  have hR:=zAJ h hF hi hz;have hle:=hR.le;have hc:i.n-r≠0:=by omega
  rw[zDF (by omega)];refine ⟨_,Lib.run_unsafeSliceData_row w ts ty ⟨i.b,i.o+r*i.wd,none⟩ l (i.n-r) hc,Gives.still h rfl ?_⟩;simp only[VR];exact ⟨i,hi,hz,rfl⟩
 ·cases hs
theorem zMH{g:Nat}{cs:Array Value}{e:TypeId}{fz:Nat×Nat}(hb:w.heap[g]?=some (.cells cs e fz))(n:Nat)(hn:n≠0):∃fz',(w.freeze ⟨g,0,none⟩ n).heap[g]?=some (.cells cs e fz'):=by
 unfold World.freeze;rw[if_neg hn];obtain ⟨lo,hi⟩:=fz;exact ⟨_,by simp[qQ,hb];rfl⟩
theorem zMI{g k:Nat}(n:Nat)(hk:k≠g):(w.freeze ⟨g,0,none⟩ n).heap[k]?=w.heap[k]?:=by
 unfold World.freeze;split;·rfl
 ·simp[qQ,Ne.symm hk]
theorem zDP(a:Addr)(n:Nat):(w.freeze a n).heap.size=w.heap.size:=by
 unfold World.freeze;split<;>simp
theorem zGo(a:Addr)(n:Nat):(w.freeze a n).os=w.os∧(w.freeze a n).tape=w.tape∧(w.freeze a n).output=w.output:=by
 unfold World.freeze;split<;>exact ⟨rfl,rfl,rfl⟩
theorem zH6(hT:T.Ok P)(h:HRel E F w){pt it ty:TypeId}{x y:PV}{x' y':Value}{r:Res}(hs:zB6 T F pt x y=some r)(hvc:r.vc)(hx:VR w (Zn E F w) E x x')(hy:VR w (Zn E F w) E y y'):
  ∃v' w',(Builtin.unsafeString_ #[pt,it] ty #[x',y']).run P w= .ok v' w'∧Gives E F nx w r v' w':=by
 unfold zB6 at hs;split at hs
 ·injection hs with hs;subst hs;simp only[VR]at hx hy;subst hx;subst hy;simp only[zAH]at hvc;subst hvc;exact ⟨.string .empty,w,Lib.run_unsafeString_none w pt it ty none,Gives.still h rfl (by simp[zAH,VR,zF8];rfl)⟩
 ·rename_i nm n;split at hs;rotate_left;·cases hs
  rename_i e p rs e' zr sz by_ eq_ ls hF hpt;split at hs;rotate_left;·cases hs
  rename_i ei hei;split at hs;rotate_left;·cases hs
  rename_i hc;simp only[zC,beq_iff_eq]at hc;obtain ⟨rfl,hsz⟩:=hc;injection hs with hs;subst hs;obtain ⟨h0,h1,h2⟩:=hvc;simp only[VR]at hx hy;subst hy;obtain ⟨i,hi,hz,rfl⟩:=hx;have hR:=zAJ h hF hi hz;obtain ⟨cs,fz,b1,b2,b3,b4⟩:=hR.cells;obtain ⟨zp,hzp⟩:=hT _ _ hpt;obtain ⟨d,hd,hk⟩:=hzp.sx.desc;obtain rfl:=zMD hk;obtain ⟨ze,hze⟩:=hT _ _ hei;obtain ⟨je,hje,_,hje2,_⟩:=hze.sx.info;have hce:P.cellsOf e=1:=by simp[Program.cellsOf,hje,hje2,hsz]
  have hw1:=hR.wd_eq;have ho:=hR.o0;rw[ho]at b2 b4;generalize hl:zBc (rs.take n.toNat)=l at h2;have hll:l.length=n.toNat:=by
   rw[←hl];simp[zBc];omega
  have hnn:n=(l.length:Int):=by omega
  have hle:=hR.le;have hcell:∀j x,l[j]?=some x→w.cell? ((⟨i.b,0,none⟩:Addr).add j)=some (.int .u8 x.toNat):=by
   intro j x hj;have hjl:=zAB hj;have hrow:rs[j]?=some (zBY x):=by
    have:=congrArg (fun q:List (List PV)=>q[j]?) h2;simp only[wE,hj,wJ,uB]at this;rw[if_pos (by omega)]at this;exact this
   obtain ⟨v,q1,_,q3⟩:=(zAM hR.len).1 b4 j (zBY x) 0 (.int .u8 x.toNat) hrow rfl;simp only[VR]at q3;subst q3;have e2:w.cell? ((⟨i.b,0,none⟩:Addr).add j)=cs[0+j]?:=by
    unfold Addr.add World.cell?;by_cases hq:j=0;·subst hq;simp[b1]
    ·simp[hq,b1]
   rw[e2,←q1];congr 1;omega
  have hcap:=hR.cap;have hrun:=Lib.run_unsafeString_row (P:=P) w pt it ty e hd hce i.b cs.size (by simp[World.shape?,b1]) l (by intro e;rw[e]at hll;simp at hll;omega) (by omega) (by unfold maxLen at hcap;omega) hcell;have e3:(⟨i.b,i.o+(0*i.wd+0),none⟩:Addr)=⟨i.b,0,none⟩:=by rw[ho];simp
  rw[e3,hnn];refine ⟨_,_,hrun,E,?_,?_,FreshIn.refl _ _⟩
  ·simp only[VR];rfl
  ·obtain ⟨fz',hf⟩:=zMH b1 l.length (by omega);obtain ⟨o1,o2,o3⟩:=zGo (w:=w) ⟨i.b,0,none⟩ l.length;refine zUk h hF rfl rfl hi hz (fun k hk=>zMI _ hk) (zDP _ _) o1 o2 o3 fun hX=>?_
   refine ⟨i,hi,.inr ⟨hz,hR.wd_eq,hR.o0,hR.wd_pos,hR.len,hR.le,hR.cap,cs,fz',hf,by rw[ho];exact b2,(fun h=>by cases h),?_⟩⟩;rw[ho];exact VRr.mono (hX.EE p) _ _ _ b4
 ·cases hs
end
end Go.Tx
end
section
namespace Go.Tx
open Go.Sx (TK tk zBe cellsOf zAD zAB)
def zEm(T:Tys)(F:SF)(t xt:TypeId)(s x:PV):Option Res:=
 match s with
 | .sl n r l=>match T.get t with
  | some {k:=.slice e,..}=>match T.get e with
   | some ei=>
    if ei.size==0 then none else
    match zBs T F ei.size xt x with
    |none=>none
    |some (q,px,xs,rd)=>match F n with
     |some (.rows e' wd true p rs)=>if e'==e&&(wd==ei.size&&(px|| !p)) then some {vc:=q∧xs.length≤l∧r+l≤rs.length,v:=.int .i64 xs.length,upd:=[(n,.rows e' wd true p (rs.take r++xs++rs.drop (r+xs.length)))],rd:=n::rd} else none
     |_=>none
   |none=>none
  |_=>none
 |_=>none
section
variable {P : Program} {T : Tys} {E : Env} {F F' : SF} {nx : Nm} {w : World} {r : Res}
theorem zLR(hT:T.Ok P)(h:HRel E F w){t xt ty:TypeId}{s x:PV}{s' x':Value}{r:Res}(hs:zEm T F t xt s x=some r)(hvc:r.vc)(hsv:VR w (Zn E F w) E s s')(hx:VR w (Zn E F w) E x x'):
  ∃v' w',(Builtin.copy_ #[t,xt] ty #[s',x']).run P w= .ok v' w'∧Gives E F nx w r v' w':=by
 unfold zEm at hs;split at hs;rotate_left;·cases hs
 rename_i n r0 l;split at hs;rotate_left;·cases hs
 rename_i e _ _ _ _ _ hti;split at hs;rotate_left;·cases hs
 rename_i ei hei;split at hs;·cases hs
 rename_i hsz;have hsz:0<ei.size:=by simp at hsz;omega
 split at hs;·cases hs
 rename_i q px xs rd hsrc;split at hs;rotate_left;·cases hs
 rename_i e' wd p rs hF;split at hs;rotate_left;·cases hs
 rename_i hc;simp only[zC,beq_iff_eq]at hc;obtain ⟨rfl,rfl,hp⟩:=hc;injection hs with hs;subst hs;obtain ⟨hq,hle1,hle2⟩:=hvc;obtain ⟨⟨s1,news,s2,s3,s4,s5,s6⟩,_⟩:=zE1 (P:=P) hT h hsz hsrc hq hx;obtain ⟨z0,ht0⟩:=hT _ _ hti;obtain ⟨d,hd,hk⟩:=ht0.sx.desc;obtain rfl:=Sx.zAS hk;obtain ⟨z,ht⟩:=hT _ _ hei;obtain ⟨ix,hix,hx0,hx1,hx2⟩:=ht.sx.info;simp only at hx0 hx1 hx2;have hpp:(p&&px)=p:=by cases p<;>cases px<;>simp at hp ⊢
 have hsame:F.set n (.rows e' ei.size true p rs)=F:=by
  funext m;unfold SF.set;split;·rename_i he;subst he;exact hF.symm
  ·rfl
 simp only[VR]at hsv;obtain ⟨i,hi,hor⟩:=hsv;have run:∀a c (len:Nat),xs.length≤len→(Builtin.copy_ #[t,xt] ty #[.slice a len c,x']).run P w=((match a with|some b=>(fun _=>goInt xs.length)<$>storeCells b news|none=>pure (goInt xs.length)):Sem Value).run P w:=by
  intro a c len hl;have hmin:Nat.min xs.length len=xs.length:=uN hl;simp[Builtin.copy_,run_underlying hd,s1,sizeOf,typeInfo,hix,hx1,hmin,s6 w rfl];cases a<;>rfl
 have none0:∀a c,s'= .slice a l c→xs=[]→∃v' w',(Builtin.copy_ #[t,xt] ty #[s',x']).run P w= .ok v' w'∧Gives E F nx w {vc:=q∧xs.length≤l∧r0+l≤rs.length,v:=.int .i64 xs.length,upd:=[(n,.rows e' ei.size true p (rs.take r0++xs++rs.drop (r0+xs.length)))],rd:=n::rd} v' w':=by
  rintro a c rfl rfl
  have hn0:news=[]:=vI (by simpa using s2);subst hn0;refine ⟨goInt 0,w,?_,E,?_,?_,FreshIn.refl _ _⟩
  ·rw[run _ _ _ (by simp)];cases a<;>simp[storeCells]
  ·simp only[VR];simp[goInt]
  ·simp only[SF.upd,zK,wW,wH,List.take_append_drop];rw[hsame];exact StepR.refl h
 rcases hor with ⟨hz,rfl,rfl⟩|⟨hz,rfl⟩;·exact none0 _ _ rfl (vI (by omega))
 ·by_cases hl0:xs=[];·exact none0 _ _ rfl hl0
  ·have hlx:0<xs.length:=List.length_pos_iff.2 hl0;have hR:=zAJ h hF hi hz;rw[zDF (by omega)];obtain ⟨w',e1,e2⟩:=zUp (P:=P) (px:=px) h hF hi hz s2 s3 s4 s5 (a:=r0) (by omega);rw[hpp]at e2;refine ⟨goInt xs.length,w',?_,E,?_,?_,FreshIn.refl _ _⟩
   ·rw[run _ _ _ hle1,hR.wd_eq];simp[e1]
   ·simp only[VR];simp[goInt]
   ·simpa[SF.upd] using e2
end
end Go.Tx
end
section
namespace Go.Tx
open Go.Sx (TK tk zBe cellsOf zAD zAB zAS zBM zB1)
def zCZ(T:Tys)(F:SF)(src dst:TypeId)(x:PV):Option Res:=
 match x with
 | .sl n 0 l=>if src==dst then match T.get dst with
  | some {k:=.slice e,..}=>match T.get e with
   |some {k:=.int .u8,..}=>match F n with
    |some (.rows _ wd true true rs)=>some {vc:=0<l∧l=rs.length,v:=.fs wd rs,upd:=[(n,.dead)],rd:=[n]}
    |_=>none
   |_=>none
  |_=>none
  else none
 |_=>none
def zE5(T:Tys)(F:SF)(nx:Nm)(src dst:TypeId)(x:PV):Option Res:=
 match T.get src,T.get dst with
 |some {k:=.slice _,..},some {k:=.slice _,..}=>zCZ T F src dst x
 |_,_=>zCo T F nx src dst x
def zGp:List (List PV)→List PV
 | []=>[]
 | [x]::l=>x::zGp l
 |_::l=>zAN::zGp l
def zKb(T:Tys)(t:TypeId)(x:PV):Option Res:=
 match x with
 | .fs 1 rs=>match T.get t with
  |some {k:=.array m _,..}=>some {vc:=0<m∧rs.length=m,v:=.fp m [zGp rs] 0 0,upd:=[],rd:=[]}
  |_=>none
 |_=>none
section
variable {P : Program} {T : Tys} {E : Env} {F F' : SF} {nx : Nm} {w : World} {r : Res}
theorem zE6:∀rs:List (List PV),(zGp rs).length=rs.length
 | []=>rfl
 | []::l=>by simp[zGp,zE6 l]
 | [x]::l=>by simp[zGp,zE6 l]
 |(x::y::z)::l=>by simp[zGp,zE6 l]
theorem zKc{Z:Nat→Prop}{cs:Array Value}:∀{rs:List (List PV)} {o:Nat},(∀row∈rs,row.length=1)→VRr w Z E rs o cs→VRc w Z E (zGp rs) o cs
 | [],_,_,_=>by simp[zGp,VRc]
 | row::l,o,hl,h=>by
  have h1:=hl row (by simp);obtain ⟨x,rfl⟩:∃x,row=[x]:=by
   cases row with
   |nil=>simp at h1
   |cons x t=>cases t with
    |nil=>exact ⟨x,rfl⟩
    |cons _ _=>simp at h1
  simp only[VRr,VRc,zGp,vC,wW]at h ⊢;exact ⟨h.1.1,zKc (fun r hr=>hl r (by simp[hr])) h.2⟩
theorem zMJ(hT:T.Ok P)(h:HRel E F w){t:TypeId}{x:PV}{x':Value}(hs:zKb T t x=some r)(hvc:r.vc)(hx:VR w (Zn E F w) E x x'):
  ∃v',(Instr.arrayAt t x').run P w= .ok v' w∧Gives E F nx w r v' w:=by
 unfold zKb at hs;split at hs;rotate_left;·cases hs
 rename_i rs;split at hs;rotate_left;·cases hs
 rename_i m e _ _ _ _ _ hti;injection hs with hs;subst hs;obtain ⟨hm,hle⟩:=hvc;obtain ⟨z,ht⟩:=hT _ _ hti;obtain ⟨de,hd,hk⟩:=ht.sx.desc;obtain ⟨n',e',rfl⟩:∃n' e',de= .array n' e':=by cases de<;>simp[tk]at hk ⊢
 simp only[tk,TK.array.injEq]at hk;obtain ⟨rfl,rfl⟩:=hk;simp only[VR]at hx;obtain ⟨a,cap,rfl,h2,h3,h4,h5,h6⟩:=hx;rcases h6 with rfl|⟨b,o,cs,e2,fz,rfl,q2,q3,q4⟩;·simp at hle;omega
 refine ⟨.pointer (some ⟨b,o,none⟩),?_,Gives.still h rfl ?_⟩
 ·simp only[Instr.arrayAt,zB,run_underlying hd,zD];rw[if_neg (by omega)];rfl
 ·simp only[VR];refine ⟨b,o,cs,e2,fz,by simp,q2,q3,hm,?_,?_⟩
  ·intro row hrow;simp only[qP]at hrow;subst hrow;rw[zE6];exact hle
  ·simp only[VRr,and_true];exact zKc h5 q4
theorem zN7{g n:Nat}{cs:Array Value}{e:TypeId}{fz:Nat×Nat}(hb:w.heap[g]?=some (.cells cs e fz)):∃fz',(w.freeze ⟨g,n,none⟩ 1).heap[g]?=some (.cells cs e fz'):=by
 unfold World.freeze;rw[if_neg (by omega)];obtain ⟨lo,hi⟩:=fz;exact ⟨_,by simp[qQ,hb];rfl⟩
theorem zKd{g k n:Nat}(hk:k≠g):(w.freeze ⟨g,n,none⟩ 1).heap[k]?=w.heap[k]?:=by
 unfold World.freeze;split;·rfl
 ·simp[qQ,Ne.symm hk]
theorem zLS(hT:T.Ok P)(h:HRel E F w){src dst:TypeId}{x:PV}{x':Value}(hs:zCZ T F src dst x=some r)(hvc:r.vc)(hx:VR w (Zn E F w) E x x'):
  ∃v' w',(convert src dst x').run P w= .ok v' w'∧Gives E F nx w r v' w':=by
 unfold zCZ at hs;split at hs;rotate_left;·cases hs
 rename_i n l;split at hs;rotate_left;·cases hs
 rename_i hsd;simp only[beq_iff_eq]at hsd;subst hsd;split at hs;rotate_left;·cases hs
 rename_i e _ _ _ _ _ hti;split at hs;rotate_left;·cases hs
 rename_i _ _ _ _ _ _ hei;split at hs;rotate_left;·cases hs
 rename_i eb wd rs hF;injection hs with hs;subst hs;obtain ⟨h0,hl⟩:=hvc;obtain ⟨z0,ht0⟩:=hT _ _ hti;obtain ⟨d,hd,hk⟩:=ht0.sx.desc;obtain rfl:=Sx.zAS hk;obtain ⟨z1,ht1⟩:=hT _ _ hei;obtain ⟨d1,hd1,hk1⟩:=ht1.sx.desc;obtain ⟨kk,rfl⟩:∃kk,d1= .int kk:=by cases d1<;>simp[tk]at hk1 ⊢
 simp only[tk,TK.int.injEq]at hk1;subst hk1;simp only[VR]at hx;obtain ⟨i,hi,⟨_,e0,_⟩|⟨hz,rfl⟩⟩:=hx;·omega
 have hR:=zAJ h hF hi hz;obtain ⟨cs,fz,b1,b2,b3,b4⟩:=hR.cells;have hsh:w.shape? i.b=some (eb,cs.size):=by simp[World.shape?,b1]
 have ho:=hR.o0;refine ⟨.slice (some ⟨i.b,i.o+zJa i 0 l,none⟩) l (i.n-0),w.freeze ⟨i.b,cs.size,none⟩ 1,?_,E,?_,?_,FreshIn.refl _ _⟩;·simp[convert,run_underlying hd,run_underlying hd1,markStringish,hsh]
 ·obtain ⟨fz',hf⟩:=zN7 (w:=w) (n:=cs.size) b1;have hle:=hR.le;have hcap:=hR.cap;have hS:StepR E F w E (F.set n .dead) (w.freeze ⟨i.b,cs.size,none⟩ 1):=by
   obtain ⟨o1,o2,o3⟩:=zGo (w:=w) ⟨i.b,cs.size,none⟩ 1;exact zUk h hF rfl rfl hi hz (fun k hk=>zKd hk) (zDP _ _) o1 o2 o3 fun _=>trivial
  simp only[VR,SF.upd,zBf];refine ⟨some ⟨i.b,i.o+0,none⟩,i.n-0,by rw[hl],by omega,by omega,hR.wd_pos,hR.len,.inr ⟨i.b,i.o+0,cs,eb,fz',rfl,?_,hf,?_⟩⟩
  ·refine ⟨by rw[zDP];exact zBl b1,fun m c j hm ho hj hjz he=>?_⟩;simp only[SF.set]at hm;split at hm;·injection hm with hm;subst hm;cases ho
   ·rename_i hmn;exact h.sep m n c _ j i hm hF hmn ho rfl hj hi hjz hz he
  ·rw[wH];exact VRr.mono (hS.ext.no) _ _ _ b4
 ·obtain ⟨o1,o2,o3⟩:=zGo (w:=w) ⟨i.b,cs.size,none⟩ 1;exact zUk h hF rfl rfl hi hz (fun k hk=>zKd hk) (zDP _ _) o1 o2 o3 fun _=>trivial
theorem zJo(hT:T.Ok P)(h:HRel E F w)(hE:E nx=none){src dst:TypeId}{x:PV}{x':Value}{r:Res}(hs:zE5 T F nx src dst x=some r)(hvc:r.vc)(hx:VR w (Zn E F w) E x x'):
  ∃v' w',(convert src dst x').run P w= .ok v' w'∧Gives E F nx w r v' w':=by
 unfold zE5 at hs;split at hs;·exact zLS hT h hs hvc hx
 ·exact zHf hT h hE hs hvc hx
theorem zN8{src dst:TypeId}{x:PV}(h:zCZ T F src dst x=some r)(hl:∀n∈r.rd,F' n=F n):zCZ T F' src dst x=some r:=by
 unfold zCZ at h ⊢;split at h;rotate_left;·cases h
 rename_i n l;split at h;rotate_left;·cases h
 rename_i hsd;simp only[hsd,if_true];split at h;rotate_left;·cases h
 rename_i e _ _ _ _ _ hti;try simp only[hti]
 split at h;rotate_left;·cases h
 rename_i hei;try simp only[hei]
 split at h;rotate_left;·cases h
 rename_i eb wd rs hF;have hrd:r.rd=[n]:=by injection h with h;subst h;rfl
 rw[hrd]at hl;rw[hl n (by simp),hF];exact h
end
end Go.Tx
end
section
namespace Go.Tx
open Go.Sx (TK tk zBe cellsOf zAD zCh zAB zAO zCn wrap_i64 zAS zB1 zBg addr_add)
section
variable {P : Program} {T : Tys} {E : Env} {F : SF} {nx : Nm} {w : World}
theorem zGB(t xt ty e:TypeId)(i:TypeInfo)(z:Value)(k:IntKind)(ht:P.underlying t=some (.slice e))(hd:P.underlying xt=some (.int k))(hi:P.info? e=some i)(hz:i.zero=some z)
  (base:Option Addr)(sLen sCap:Nat)(olds:List Value)(n:Nat)
  (hold:(Builtin.firstCells i.size sLen (.slice base sLen sCap)).run P w.drew= .ok olds.toArray w.drew)
  (hg:sCap<sLen+n)(h63:((sLen+n:Nat):Int)≤9223372036854775807)(hfit:Builtin.nextslicecap (sLen+n) sCap*i.bytes≤281474976710656)(hb:n*i.bytes≤281474976710656):
  (Builtin.append_ #[t,xt] ty #[.slice base sLen sCap,.int .i64 n]).run P w=
   .ok (.slice (some ⟨w.heap.size,0,none⟩) (sLen+n) (grownCap w (sLen+n) sCap e)) (w.drew.alloc (.cells (olds.toArray++(if n*i.size=0 then #[] else Builtin.zeroCells z.cells n)++Builtin.zeroCells z.cells (grownCap w (sLen+n) sCap e-(sLen+n))) e)):=by
 have hn:¬(sLen+n≤sCap):=by omega
 have h63':¬(9223372036854775807<((sLen:Int)+(n:Int))):=by omega
 have h48':¬(281474976710656<Builtin.nextslicecap (sLen+n) sCap*i.bytes):=by omega
 have hw:IntKind.i64.wrap (n:Int)=n:=wrap_i64 (by unfold zCn;omega);have h0:¬((n:Int)<0):=by omega
 have hbi:¬(281474976710656<(n:Int)*(i.bytes:Int)):=by
  have:((n*i.bytes:Nat):Int)=(n:Int)*(i.bytes:Int):=qK _ _;omega
 have hai:(asInt (.int .i64 (n:Int))).run P w= .ok (n:Int) w:=rfl;by_cases hz0:n*i.size=0
 ·rw[if_pos hz0];simp[Builtin.append_,run_underlying ht,run_underlying hd,sizeOf,typeInfo,zeroValue,hi,hz,hai,hw,h0,hbi,hn,h63',h48',Question.forced,hold,newRow,grownCap,hz0]
 ·rw[if_neg hz0];simp[Builtin.append_,run_underlying ht,run_underlying hd,sizeOf,typeInfo,zeroValue,hi,hz,hai,hw,h0,hbi,hn,h63',h48',Question.forced,hold,newRow,grownCap,hz0]
theorem zGC(t xt ty e:TypeId)(i:TypeInfo)(z:Value)(k:IntKind)(ht:P.underlying t=some (.slice e))(hd:P.underlying xt=some (.int k))(hi:P.info? e=some i)(hz:i.zero=some z)
  (a:Addr)(sLen sCap:Nat)(n:Nat)(hg:sLen+n≤sCap)(h63:(n:Int)≤9223372036854775807)(hb:n*i.bytes≤281474976710656){w':World}(hst:(storeCells (a.add (sLen*i.size)) (if n*i.size=0 then #[] else Builtin.zeroCells z.cells n).toList).run P w= .ok () w'):
  (Builtin.append_ #[t,xt] ty #[.slice (some a) sLen sCap,.int .i64 n]).run P w= .ok (.slice (some a) (sLen+n) sCap) w':=by
 have hw:IntKind.i64.wrap (n:Int)=n:=wrap_i64 (by unfold zCn;omega);have h0:¬((n:Int)<0):=by omega
 have hbi:¬(281474976710656<(n:Int)*(i.bytes:Int)):=by
  have:((n*i.bytes:Nat):Int)=(n:Int)*(i.bytes:Int):=qK _ _;omega
 have hai:(asInt (.int .i64 (n:Int))).run P w= .ok (n:Int) w:=rfl;by_cases hz0:n*i.size=0
 ·rw[if_pos hz0]at hst;simp[Builtin.append_,run_underlying ht,run_underlying hd,sizeOf,typeInfo,zeroValue,hi,hz,hai,hw,h0,hbi,hg,hz0];simp only at hst;simp[hst]
 ·rw[if_neg hz0]at hst;simp[Builtin.append_,run_underlying ht,run_underlying hd,sizeOf,typeInfo,zeroValue,hi,hz,hai,hw,h0,hbi,hg,hz0,hst]
def zB7(T:Tys)(F:SF)(nx:Nm)(t:TypeId)(s x:PV):Option Res:=
 match T.get t with
 | some {k:=.slice e,..}=>
  match T.get e with
  | some ei=>
   if ei.size==0 then none else
   match s,x with
   | .sl n 0 l,.int .i64 m=>
    match F n with
    | some (.rows e' wd true p rs)=>
     if e'==e&&wd==ei.size then
      some {vc:=0<m∧l=rs.length∧(rs.length+m.toNat)*ei.bytes≤140737488355328∧rs.length+m.toNat≤9223372036854775807,v:=.sl nx 0 (l+m.toNat),upd:=[(n,.dead),(nx,.rows e ei.size true p (rs++List.replicate m.toNat ei.zero))],rd:=[n]}
     else none
    |_=>none
   |_,_=>none
  |none=>none
 |_=>none
theorem zH7(hT:T.Ok P)(h:HRel E F w)(hE:E nx=none){t xt ty:TypeId}{s x:PV}{s' x':Value}{r:Res}{k:IntKind}(hxt:P.underlying xt=some (.int k))(hs:zB7 T F nx t s x=some r)(hvc:r.vc)(hds:VR w (Zn E F w) E s s')(hdx:VR w (Zn E F w) E x x'):
  ∃v' w',(Builtin.append_ #[t,xt] ty #[s',x']).run P w= .ok v' w'∧Gives E F nx w r v' w':=by
 unfold zB7 at hs;split at hs;rotate_left;·cases hs
 rename_i e _ _ _ _ _ hti;split at hs;rotate_left;·cases hs
 rename_i ei hei;split at hs;·cases hs
 rename_i hsz;simp only[beq_iff_eq]at hsz;obtain ⟨z0,ht0⟩:=hT _ _ hti;obtain ⟨d,hd,hk⟩:=ht0.sx.desc;obtain rfl:=zAS hk;obtain ⟨z,ht⟩:=hT _ _ hei;obtain ⟨ix,hx,hx0,hx1,hx2⟩:=ht.sx.info;simp only at hx0 hx1 hx2;split at hs;rotate_left;·cases hs
 rename_i n l m;split at hs;rotate_left;·cases hs
 rename_i e' wd p rs hF;split at hs;rotate_left;·cases hs
 rename_i hc2;simp only[zC,beq_iff_eq]at hc2;obtain ⟨rfl,rfl⟩:=hc2;injection hs with hs;subst hs;obtain ⟨hm0,rfl,hb,hm⟩:=hvc;obtain ⟨c,rfl⟩:∃c:Nat,m=c:=⟨m.toNat,by omega⟩;simp only[qL]at hb hm ⊢;have hc0:0<c:=by omega
 simp only[VR]at hdx;subst hdx;have hcb:c*ix.bytes≤281474976710656:=by
  rw[hx2];have:c*ei.bytes≤(rs.length+c)*ei.bytes:=wN _ (by omega);omega
 have hnz:¬c*ix.size=0:=by rw[hx1];exact Nat.ne_of_gt (Nat.mul_pos hc0 (by omega))
 obtain ⟨xs,hxs⟩:∃xs,xs=List.replicate c ei.zero:=⟨_,rfl⟩;have hxl:xs.length=c:=by rw[hxs];simp
 obtain ⟨news,hnews⟩:∃news,news=(Builtin.zeroCells z.cells c).toList:=⟨_,rfl⟩;obtain ⟨a1,a2,a3,a4⟩:=zEb (w:=w) (Z:=Zn E F w) ht (by omega) c;rw[←hxs,←hnews]at a1 a3;rw[←hxs]at a4;rw[←hnews]at a2;have hza:Builtin.zeroCells z.cells c=news.toArray:=by rw[hnews]
 rw[←hxs];simp only[VR]at hds;obtain ⟨i,hi,hor⟩:=hds;have hgrow:=fun(base:Option Addr) (sLen sCap:Nat) (olds:List Value) hold hg h63 hfit=>zGB (P:=P) (w:=w) (ty:=ty) t xt e' ix z k hd hxt hx hx0 base sLen sCap olds c hold hg h63 hfit hcb
 rcases hor with ⟨hz,hl0,rfl⟩|⟨hz,rfl⟩
 ·have hrs:rs=[]:=vI hl0;subst hrs;have hf:=zUc h n;simp only[wW,zP,zF]at hb hm ⊢;have hold:(Builtin.firstCells ix.size 0 (.slice i.za 0 0)).run P w.drew= .ok (([]:List Value).toArray) w.drew:=by
   cases i.za with
   |none=>rfl
   |some a=>simp[Builtin.firstCells,loadCells,loadCellsFrom]
  have hr:=hgrow i.za 0 0 [] hold (by omega) (by omega) (zBU (by omega) (by rw[hx2];simpa using hb));rw[if_neg hnz,hza]at hr;have hge:=grownCap_ge w (0+c) 0 e';have hcm:=grownCap_le_maxLen w (0+c) 0 e' (by unfold maxLen;omega);have hrest:(Builtin.zeroCells z.cells (grownCap w (0+c) 0 e'-(0+c))).size=(grownCap w (0+c) 0 e'-xs.length)*ei.size:=by
   rw[size_zeroCells,←vA,zAD,ht.sx.sz];simp[hxl]
  have e2:Ext Env.no w (Zn E F w) (EE E p) w (Zn E (F.set n .dead) w):=⟨zUT _,hf.ext.zone,hf.ext.heap⟩;have hS:=zUX (t:=e') (p:=p) hf.rel hE (by omega) a4 a1 (VRr.mono e2 _ _ _ a3) (by omega) hcm hrest (0,0) (by simp);refine ⟨_,_,hr,E.set nx ⟨w.heap.size,0,ei.size,grownCap w (0+c) 0 e',false,none⟩,?_,?_,FreshIn.set⟩
  ·simp only[zP];exact zHR (zUO _ _ _) rfl _
  ·have hS':=(hf.trans hS).drew;simp only[zP]at hS' ⊢;rw[show ([]:List Value).toArray++news.toArray=news.toArray by simp];exact hS'
 ·have hR:=zAJ h hF hi hz;have hw:=hR.wd_eq;simp only[zBf,wH,vH];have e0:Ext Env.no w (Zn E F w) (EE E true) w (Zn E F w):=⟨zUT _,fun _ hz=>hz,fun _ _=>rfl⟩;by_cases hroom:rs.length+c≤i.n
  ·obtain ⟨w',e1,e2⟩:=zUj (P:=P) (px:=true) (xs:=xs) h hE hF hi hz a1 a2 (VRr.mono e0 _ _ _ a3) a4 (by omega);have hr:=zGC (P:=P) (w:=w) (ty:=ty) t xt e' ix z k hd hxt hx hx0 ⟨i.b,i.o,none⟩ rs.length i.n c hroom (by omega) hcb (w':=w') (by rw[if_neg hnz,hza,addr_add,hx1];exact e1);rw[uP]at e2;refine ⟨_,w',hr,E.set nx i,?_,e2,FreshIn.set⟩;exact zHR (zUO _ _ _) hz _
  ·obtain ⟨cs,fz,b1,b2,b3,b4⟩:=hR.cells;have hso:=zE2 P (cap:=i.n) b1 (by omega) hR.len b4;obtain ⟨_,olds,o1,o2,o3,o4,o5⟩:=hso;have hr:=hgrow (some ⟨i.b,i.o,none⟩) rs.length i.n olds (by rw[hx1];exact o5 w.drew rfl) (by omega) (by omega) (zBU (by omega) (by rw[hx2];exact hb));rw[if_neg hnz,hza]at hr;have hge:=grownCap_ge w (rs.length+c) i.n e';have hcm:=grownCap_le_maxLen w (rs.length+c) i.n e' (by unfold maxLen;omega);refine ⟨_,_,hr,E.set nx ⟨w.heap.size,0,ei.size,grownCap w (rs.length+c) i.n e',false,none⟩,zHR (zUO _ _ _) rfl _,?_,FreshIn.set⟩;have hf:=zUc h n;have hrest:(Builtin.zeroCells z.cells (grownCap w (rs.length+c) i.n e'-(rs.length+c))).size=(grownCap w (rs.length+c) i.n e'-(rs++xs).length)*ei.size:=by
    rw[size_zeroCells,←vA,zAD,ht.sx.sz,zU,hxl]
   have e1:Ext (EE E p) w (Zn E F w) (EE E p) w (Zn E (F.set n .dead) w):=⟨Env.le.refl _,hf.ext.zone,hf.ext.heap⟩;have e2:Ext Env.no w (Zn E F w) (EE E p) w (Zn E (F.set n .dead) w):=⟨zUT _,hf.ext.zone,hf.ext.heap⟩;have hj:VRr w (Zn E (F.set n .dead) w) (EE E p) (rs++xs) 0 (olds++news).toArray:=
    zU5 hR.len a4 o1 (fun j hj=>by rw[zP,wR,wO hj]) (fun j hj=>by rw[zP,wR,wZ (by omega)];congr 1;omega) (VRr.mono e1 _ _ _ o3) (VRr.mono e2 _ _ _ a3)
   have hxr:∀row∈rs++xs,row.length=ei.size:=by
    intro x hx;rcases List.mem_append.1 hx with hx|hx;·exact hR.len x hx
    ·exact a4 x hx
   have hS:=zUX (t:=e') hf.rel hE (by omega) hxr (by simp[o1,a1,wF]) hj (by simp only[zU,hxl];exact hge) hcm hrest (0,0) (by simp);have hS:=(hf.trans hS).drew;have q:(olds++news).toArray=olds.toArray++news.toArray:=by simp
   rw[q]at hS;exact hS
def zB8(T:Tys)(F:SF)(nx:Nm)(t xt:TypeId)(s x:PV):Option Res:=
 match T.get xt with
 |some {k:=.int _,..}=>zB7 T F nx t s x
 |_=>zBh T F nx t xt s x
theorem zH8(hT:T.Ok P)(h:HRel E F w)(hE:E nx=none){t xt ty:TypeId}{s x:PV}{s' x':Value}{r:Res}(hs:zB8 T F nx t xt s x=some r)(hvc:r.vc)(hds:VR w (Zn E F w) E s s')(hdx:VR w (Zn E F w) E x x'):
  ∃v' w',(Builtin.append_ #[t,xt] ty #[s',x']).run P w= .ok v' w'∧Gives E F nx w r v' w':=by
 unfold zB8 at hs;split at hs
 ·rename_i hxt;obtain ⟨z,ht⟩:=hT _ _ hxt;obtain ⟨d,hd,hk⟩:=ht.sx.desc;obtain rfl:=zB1 hk;exact zH7 hT h hE hd hs hvc hds hdx
 ·exact zFw hT h hE hs hvc hds hdx
end
end Go.Tx
end
