/- Lemmas for the walk: T6, T7, T8, Sx14m. -/
import Derived.Test.YtifhjhbfhdcahaaGreatP03
import Derived.Laws.Append
import Derived.Laws.AppendOwn
import Derived.MapKept
set_option linter.all false
section
namespace Go.Tx
open Go.Sx (TK tk zBe cellsOf zAD zCh zBI zAB zAO zCn zFU wrap_i64 zCJ zAS zBM zBg zB1 zDm zEy addr_add)
section
variable {P : Program} {T : Tys} {E : Env} {F : SF} {nx : Nm} {w : World} {Z : Nat → Prop}
def zDI(T:Tys)(t:TypeId)(x i:PV):Option Res:=
 match i with
 | .int _ i=>
  match T.get t,x with
  |some {k:=.str,..},.str s=>some (zAH (0≤i∧i<s.length) (.int .u8 (s.getD i.toNat 0).toNat))
  |some {k:=.array len e,..},.agg l=>
   match T.get e with
   | some ei=>if zBp ei then some (zAH (0≤i∧i<len) (.agg ((l.drop (i.toNat*ei.size)).take ei.size)))
     else if ei.size==1 then some (zAH (0≤i∧i<len∧i<l.length) (l.getD i.toNat zAN)) else none
   |none=>none
  |_,_=>none
 |_=>none
theorem VRl.part{l:List PV}{l':List Value}(h:VRl w Z E l l')(a n:Nat):VRl w Z E ((l.drop a).take n) ((l'.drop a).take n):=by
 obtain ⟨h1,h2⟩:=VRl.get h;refine VRl.of (by simp[h1]) fun j x v hx hv=>?_
 rw[uB]at hx hv;split at hx
 ·rename_i hj;rw[if_pos hj]at hv;rw[vX]at hx hv;obtain ⟨v',a1,a2⟩:=h2 _ _ hx;rw[a1]at hv;injection hv with hv;subst hv;exact a2
 ·cases hx
theorem zGi(hT:T.Ok P)(h:HRel E F w){t:TypeId}{x i:PV}{x' i':Value}{r:Res}(hs:zDI T t x i=some r)(hvc:r.vc)(hx:VR w (Zn E F w) E x x')(hi:VR w (Zn E F w) E i i'):
  ∃v',(Instr.index t x' i').run P w= .ok v' w∧Gives E F nx w r v' w:=by
 unfold zDI at hs;split at hs;rotate_left;·cases hs
 simp only[VR]at hi;subst hi;rename_i k i;split at hs
 ·rename_i _ _ _ _ _ _ s hti;simp only[VR]at hx;subst hx;injection hs with hs;subst hs;obtain ⟨h1,h2⟩:=hvc;obtain ⟨z,ht⟩:=hT _ _ hti;obtain ⟨d,hd,hk⟩:=ht.run_underlying w;obtain rfl:=zBg hk;refine ⟨.int .u8 (s.getD i.toNat 0).toNat,?_,Gives.still h rfl (by simp[zAH,VR])⟩;have hlt:i.toNat<s.length:=by omega
  have hget:(⟨s.toArray⟩:ByteArray)[i.toNat]?=some (s.getD i.toNat 0):=by
   have hlt':i.toNat<(⟨s.toArray⟩:ByteArray).size:=by rw[zCK];exact hlt
   rw[show (⟨s.toArray⟩:ByteArray)[i.toNat]?=some ((⟨s.toArray⟩:ByteArray)[i.toNat]'hlt') from by simp[getElem?_pos,hlt']];have e1:=zAO (0:UInt8) hlt;rw[zS hlt]at e1;exact e1
  simp only[Instr.index,zF8,asIntOf,zB,zI,zD,hd,h1,if_true,hget]
 ·rename_i len e _ _ _ _ _ l hti;split at hs;rotate_left;·cases hs
  rename_i ei hei;obtain ⟨z,ht⟩:=hT _ _ hti;obtain ⟨z2,ht2⟩:=hT _ _ hei;obtain ⟨d,hd,hk⟩:=ht.run_underlying w;obtain rfl:=zBM hk;simp only[VR]at hx;obtain ⟨l',rfl,hone,hl⟩:=hx;have hz:=ht2.run_sizeOf w;have hagg:=ht2.run_isAgg w;obtain ⟨g1,g2⟩:=VRl.get hl;split at hs
  ·rename_i hag;injection hs with hs;subst hs;obtain ⟨h1,h2⟩:=hvc;refine ⟨.agg ((l'.drop (i.toNat*ei.size)).take ei.size).toArray,?_,Gives.still h rfl ?_⟩
   ·simp only[Instr.index,asIntOf,zB,zI,zD,hd,h1,h2,and_self,if_true,hz,Go.part,hagg];simp only[zBp]at hag;simp only[hag,if_true,zB,hz,zD,zI];congr 2;apply vG;simp[qY]
   ·simp only[zAH,VR];exact ⟨_,rfl,fun u hu=>hone u (uE (vR hu)),VRl.part hl _ _⟩
  ·rename_i hag;split at hs;rotate_left;·cases hs
   rename_i h1s;simp only[beq_iff_eq]at h1s;injection hs with hs;subst hs;obtain ⟨h1,h2,h3⟩:=hvc;have hlt:i.toNat<l.length:=by omega
   obtain ⟨v',a1,a2⟩:=g2 i.toNat _ (zAO zAN hlt);refine ⟨v',?_,Gives.still h rfl a2⟩;simp only[Instr.index,asIntOf,zB,zI,zD,hd,h1,h2,and_self,if_true,hz,Go.part,hagg];simp only[zBp]at hag;simp only[hag,wC,if_false,h1s,wG,wR,a1,zI]
 ·cases hs
def zH5(T:Tys)(s:TypeId)(x:PV)(f:Nat):Option Res:=
 match T.get s with
 | some {k:=.struct fs,..}=>
  match fs[f]? with
  | some (off,ft)=>
   match T.get ft with
   | some fi=>
    match x with
    | .agg l=>
     if zBp fi then some (zAH True (.agg ((l.drop off).take fi.size)))
     else some (zAH (off<l.length) (l.getD off zAN))
    |_=>none
   |none=>none
  |none=>none
 |_=>none
theorem zLO(hT:T.Ok P)(h:HRel E F w){s:TypeId}{x:PV}{x':Value}{f:Nat}{r:Res}(hs:zH5 T s x f=some r)(hvc:r.vc)(hx:VR w (Zn E F w) E x x'):
  ∃v',(Instr.field s x' f).run P w= .ok v' w∧Gives E F nx w r v' w:=by
 unfold zH5 at hs;split at hs;rotate_left;·cases hs
 rename_i fs _ _ _ _ _ hti;split at hs;rotate_left;·cases hs
 rename_i off ft hfs;split at hs;rotate_left;·cases hs
 rename_i fi hfi;split at hs;rotate_left;·cases hs
 rename_i l;obtain ⟨z,ht⟩:=hT _ _ hti;obtain ⟨d,hd,hk⟩:=ht.run_underlying w;obtain ⟨a,rfl,ha⟩:=zCJ hk;obtain ⟨fld,hf1,hf2,hf3⟩:=zEy ha hfs;subst hf2;subst hf3;obtain ⟨z2,ht2⟩:=hT _ _ hfi;have hz:=ht2.run_sizeOf w;have hagg:=ht2.run_isAgg w;simp only[VR]at hx;obtain ⟨l',rfl,hone,hl⟩:=hx;obtain ⟨g1,g2⟩:=VRl.get hl;split at hs
 ·rename_i hag;injection hs with hs;subst hs;refine ⟨.agg ((l'.drop fld.offset).take fi.size).toArray,?_,Gives.still h rfl ?_⟩
  ·simp only[Instr.field,asAgg,zB,zI,zD,hd,hf1,Go.part,hagg];simp only[zBp]at hag;simp only[hag,if_true,zB,hz,zD,zI];congr 2;apply vG;simp[qY]
  ·simp only[zAH,VR];exact ⟨_,rfl,fun u hu=>hone u (uE (vR hu)),VRl.part hl _ _⟩
 ·rename_i hag;injection hs with hs;subst hs;have hlt:fld.offset<l.length:=hvc;obtain ⟨v',a1,a2⟩:=g2 fld.offset _ (zAO zAN hlt);refine ⟨v',?_,Gives.still h rfl a2⟩;simp only[Instr.field,asAgg,zB,zI,zD,hd,hf1,Go.part,hagg];simp only[zBp]at hag;simp only[hag,wC,if_false,wR,a1,zI]
def zAn(v:Option PV)(d:Nat):Option Int:=
 match v with
 |none=>some d
 |some (.int _ i)=>some i
 |_=>none
def zCD(T:Tys)(F:SF)(t:TypeId)(x:PV)(lo hi mx:Option PV):Option Res:=
 match T.get t with
 | some {k:=.str,..}=>
  match x,mx with
  | .str s,none=>
   match zAn lo 0,zAn hi s.length with
   |some l,some h=>some (zAH (0≤l∧l≤h∧h≤s.length) (.str ((s.drop l.toNat).take (h.toNat-l.toNat))))
   |_,_=>none
  |_,_=>none
 | some {k:=.slice e,..}=>
  match T.get e with
  | some ei=>
   match x,mx with
   | .sl n r len,none=>
    match F n,zAn lo 0,zAn hi len with
    | some (.rows _ wd _ _ rs),some l,some h=>
     if ei.size==wd then
      some {vc:=0≤l∧l≤h∧r+h.toNat≤rs.length∧(r=0∨r+l.toNat<rs.length),v:=.sl n (r+l.toNat) (h.toNat-l.toNat),upd:=[],rd:=[n]}
     else none
    |_,_,_=>none
   | .fs wd rs,none=>
    match zAn lo 0,zAn hi rs.length with
    |some l,some h=>
     if ei.size==wd then some (zAH (0≤l∧l≤h∧h.toNat≤rs.length) (.fs wd ((rs.drop l.toNat).take (h.toNat-l.toNat)))) else none
    |_,_=>none
   | .nilS,none=>
    match zAn lo 0,zAn hi 0 with
    |some l,some h=>some (zAH (l=0∧h=0) .nilS)
    |_,_=>none
   |_,_=>none
  |none=>none
 |_=>none
def zJk(lo:Option PV)(lo':Option Value):Prop:=match lo with|none=>lo'=none|some (.int k i)=>lo'=some (.int k i)|_=>True
theorem zAb{isS:Bool}{len cap:Nat}{lo hi:Option PV}{lo' hi':Option Value}{l h:Int}(hl:zAn lo 0=some l)(hh:zAn hi len=some h)
  (el:zJk lo lo')(eh:zJk hi hi')(h0:0≤l)(h1:l≤h)(h2:h≤cap):
  (Instr.sliceBounds isS len cap lo' hi' none).run P w= .ok (l.toNat,h.toNat,cap) w:=by
 have hl':Sx.zAn lo' 0=some l:=by
  cases lo with
  |none=>simp only[zJk]at el;subst el;exact hl
  |some v=>cases v<;>simp[zAn]at hl<;>(simp only[zJk]at el;subst el;simp[Sx.zAn,hl])
 have hh':Sx.zAn hi' len=some h:=by
  cases hi with
  |none=>simp only[zJk]at eh;subst eh;exact hh
  |some v=>cases v<;>simp[zAn]at hh<;>(simp only[zJk]at eh;subst eh;simp[Sx.zAn,hh])
 exact Sx.zAb hl' hh' rfl rfl h0 h1 h2
theorem VRr.drop{wd o l n:Nat}{rs:List (List PV)}{cs:Array Value}(hl:∀row∈rs,row.length=wd)(h:VRr w Z E rs o cs):VRr w Z E ((rs.drop l).take n) (o+l*wd) cs:=by
 have h':=(zAM hl).1 h;have hl':∀row∈(rs.drop l).take n,row.length=wd:=fun r hr=>hl r (uE (vR hr))
 rw[zAM hl'];intro r row c x hr hc;rw[uB]at hr;split at hr
 ·rw[vX]at hr;obtain ⟨v,a1,a2⟩:=h' _ _ _ _ hr hc;refine ⟨v,?_,a2⟩;rw[←a1];congr 1;rw[wF];omega
 ·cases hr
theorem zGj(hT:T.Ok P)(h:HRel E F w){t:TypeId}{x:PV}{x':Value}{lo hi mx:Option PV}{lo' hi' mx':Option Value}{r:Res}(hs:zCD T F t x lo hi mx=some r)(hvc:r.vc)(hx:VR w (Zn E F w) E x x')
  (hlo:zJk lo lo')(hhi:zJk hi hi')(hmx0:mx=none→mx'=none):
  ∃v',(Instr.sliceAt t x' lo' hi' mx').run P w= .ok v' w∧Gives E F nx w r v' w:=by
 unfold zCD at hs;split at hs
 ·rename_i hti;split at hs;rotate_left;·cases hs
  rename_i s;obtain rfl:=hmx0 rfl;simp only[VR]at hx;subst hx;split at hs;rotate_left;·cases hs
  rename_i l hh hl hhh;injection hs with hs;subst hs;obtain ⟨h1,h2,h3⟩:=hvc;obtain ⟨z,ht⟩:=hT _ _ hti;obtain ⟨d,hd,hk⟩:=ht.run_underlying w;obtain rfl:=zBg hk;refine ⟨_,?_,Gives.still h rfl (by simp only[zAH,VR];rfl)⟩;unfold zF8;have hsz:=zCK s;rw[←hsz]at h3 hhh;simp only[Instr.sliceAt,zB,hd,zD,Instr.slice,vM,wC,if_false,zAb hl hhh hlo hhi h1 h2 h3,zI,zFx]
 ·rename_i e _ _ _ _ _ hti;split at hs;rotate_left;·cases hs
  rename_i ei hei;obtain ⟨z,ht⟩:=hT _ _ hti;obtain ⟨z2,ht2⟩:=hT _ _ hei;obtain ⟨d,hd,hk⟩:=ht.run_underlying w;obtain rfl:=zAS hk;have hz:=ht2.run_sizeOf w;split at hs
  ·rename_i n row len;obtain rfl:=hmx0 rfl;split at hs;rotate_left;·cases hs
   rename_i e0 wd own p rs l hh hF hl hhh;split at hs;rotate_left;·cases hs
   rename_i hw;simp only[beq_iff_eq]at hw;injection hs with hs;subst hs;obtain ⟨h1,h2,h3,h4⟩:=hvc;simp only[VR]at hx;obtain ⟨bi,hbi,hor⟩:=hx;rcases hor with ⟨hn,hl0,rfl⟩|⟨hn,rfl⟩
   ·-- no cells
    have hrs:rs=[]:=by
     obtain ⟨j,hj,hq⟩:=h.blk n _ hF;rw[hbi]at hj;injection hj with hj;subst hj;rcases hq with ⟨_,q,_⟩|⟨q,_⟩;·exact q
     ·rw[hn]at q;cases q
    subst hrs;subst hl0;simp only[wW,Nat.le_zero_eq]at h3;have hh0:hh=0:=by omega
    have hl0:l=0:=by omega
    subst hh0;subst hl0;refine ⟨.slice bi.za 0 0,?_,Gives.still h rfl ?_⟩
    ·simp only[Instr.sliceAt,zB,hd,zD,Instr.slice,zAb (P:=P) (w:=w) (isS:=true) (len:=0) (cap:=0) hl hhh hlo hhi h1 h2 (by omega),zI,hz];simp
    ·simp only[VR];exact ⟨bi,hbi,.inl ⟨hn,rfl,rfl⟩⟩
   ·have hR:=zAJ h hF hbi hn;have hle:=hR.le;have hcap:hh≤((bi.n-row:Nat):Int):=by omega
    refine ⟨_,?_,Gives.still h rfl (by simp only[VR];exact ⟨bi,hbi,.inr ⟨hn,rfl⟩⟩)⟩;simp only[Instr.sliceAt,zB,hd,zD,Instr.slice,zAb (P:=P) (w:=w) (isS:=true) (len:=len) (cap:=bi.n-row) hl hhh hlo hhi h1 h2 hcap,zI,hz];have haddr:(if bi.n-row=l.toNat then some ({block:=bi.b,off:=bi.o+zJa bi row len}:Addr) else Option.map (fun x:Addr=>x.add (l.toNat*ei.size)) (some ⟨bi.b,bi.o+zJa bi row len,none⟩))=some ⟨bi.b,bi.o+zJa bi (row+l.toNat) (hh.toNat-l.toNat),none⟩:=by
     rcases h4 with h4|h4
     ·subst h4;simp only[zBf,zP,vH,wH];by_cases hc:bi.n=l.toNat
      ·rw[if_pos hc];unfold zJa;rw[if_pos ⟨by omega,hc.symm⟩];simp
      ·rw[if_neg hc,zJe _ (by omega)];simp only[wJ,addr_add,hw,hR.wd_eq]
     ·rw[if_neg (by omega),zJe _ (by omega),zJe _ (by omega)];simp only[wJ,addr_add,hw,hR.wd_eq,wF];congr 2;omega
    rw[haddr];congr 2;omega
  ·rename_i wd rs;obtain rfl:=hmx0 rfl;split at hs;rotate_left;·cases hs
   rename_i l hh hl hhh;split at hs;rotate_left;·cases hs
   rename_i hw;simp only[beq_iff_eq]at hw;injection hs with hs;subst hs;obtain ⟨h1,h2,h3⟩:=hvc;simp only[VR]at hx;obtain ⟨a,cap,rfl,hc,hcm,hwd,hlen,hor⟩:=hx;have hcap:hh≤(cap:Int):=by omega
   refine ⟨.slice (if cap=l.toNat then a else a.map fun x:Addr=>x.add (l.toNat*ei.size)) (hh.toNat-l.toNat) (cap-l.toNat),?_,Gives.still h rfl ?_⟩;·simp only[Instr.sliceAt,zB,hd,zD,Instr.slice,zAb (P:=P) (w:=w) (isS:=true) (len:=rs.length) (cap:=cap) hl hhh hlo hhi h1 h2 hcap,zI,hz]
   ·simp only[zAH,VR];have hnl:((rs.drop l.toNat).take (hh.toNat-l.toNat)).length=hh.toNat-l.toNat:=by simp;omega
    refine ⟨_,_,by rw[hnl],by rw[hnl];omega,by omega,hwd,fun row hr=>hlen row (uE (vR hr)),?_⟩;by_cases h0:hh.toNat-l.toNat=0;·left;rw[h0,uG]
    ·right;rcases hor with rfl|⟨b,o,cs,e,fz,rfl,q1,q2,q3⟩;·simp at h3;omega
     ·refine ⟨b,o+l.toNat*wd,cs,e,fz,?_,q1,q2,VRr.drop hlen q3⟩;rw[if_neg (by omega)];simp only[wJ,addr_add,hw]
  ·obtain rfl:=hmx0 rfl;simp only[VR]at hx;subst hx;split at hs;rotate_left;·cases hs
   rename_i l hh hl hhh;injection hs with hs;subst hs;obtain ⟨rfl,rfl⟩:=hvc;refine ⟨.slice none 0 0,?_,Gives.still h rfl (by simp[zAH,VR])⟩;simp only[Instr.sliceAt,zB,hd,zD,Instr.slice,zAb (P:=P) (w:=w) (isS:=true) (len:=0) (cap:=0) hl hhh hlo hhi (by omega) (by omega) (by omega),zI,hz];rfl
  ·cases hs
 ·cases hs
def zB3(x:PV)(i:Nat):Option Res:=
 match x with
 | .tup l=>match l[i]? with|some v=>some (zAH True v)|none=>none
 |_=>none
theorem zE0(h:HRel E F w){x:PV}{x':Value}{i:Nat}{r:Res}(hs:zB3 x i=some r)(hx:VR w (Zn E F w) E x x'):∃v',(Instr.extract x' i).run P w= .ok v' w∧Gives E F nx w r v' w:=by
 unfold zB3 at hs;split at hs;rotate_left;·cases hs
 rename_i l;split at hs;rotate_left;·cases hs
 rename_i v hv;injection hs with hs;subst hs;simp only[VR]at hx;obtain ⟨l',rfl,hl⟩:=hx;obtain ⟨v',h1,h2⟩:=(VRl.get hl).2 i v hv;refine ⟨v',?_,Gives.still h rfl h2⟩;simp[Instr.extract,h1]
def zFV:PV→Bool
 | .tup []=>true
 |_=>false
def zEj(c a b:PV):Option Res:=
 match c with
 | .bool g=>
  if zFV a then some (zAH (g=false) b)
  else if zFV b then some (zAH (g=true) a)
  else match a,b with
   | .bool x,.bool y=>some (zAH True (.bool (if g then x else y)))
   | .int k x,.int k' y=>if k=k' then some (zAH True (.int k (if g then x else y))) else none
   | .str x,.str y=>some (zAH True (.str (if g then x else y)))
   |_,_=>none
 |_=>none
theorem zHe(h:HRel E F w){c a b:PV}{c' a' b':Value}{r:Res}(hs:zEj c a b=some r)(hvc:r.vc)(hc:VR w (Zn E F w) E c c')(ha:VR w (Zn E F w) E a a')(hb:VR w (Zn E F w) E b b'):
  ∃v',(do pure (if ←asBool c' then a' else b'):Sem Value).run P w= .ok v' w∧Gives E F nx w r v' w:=by
 unfold zEj at hs;split at hs;rotate_left;·cases hs
 rename_i g;simp only[VR]at hc;subst hc;have hrun:(do pure (if ←asBool (.bool g) then a' else b'):Sem Value).run P w= .ok (if g then a' else b') w:=by simp[asBool]
 refine ⟨_,hrun,?_⟩;split at hs
 ·injection hs with hs;subst hs;have hg:g=false:=hvc;subst hg;exact Gives.still h rfl (by simpa[zAH] using hb)
 split at hs
 ·injection hs with hs;subst hs;have hg:g=true:=hvc;subst hg;exact Gives.still h rfl (by simpa[zAH] using ha)
 split at hs
 ·injection hs with hs;subst hs;simp only[VR]at ha hb;subst ha;subst hb;exact Gives.still h rfl (by cases g<;>simp[zAH,VR])
 ·split at hs
  ·rename_i hk;subst hk;injection hs with hs;subst hs;simp only[VR]at ha hb;subst ha;subst hb;exact Gives.still h rfl (by cases g<;>simp[zAH,VR])
  ·cases hs
 ·injection hs with hs;subst hs;simp only[VR]at ha hb;subst ha;subst hb;exact Gives.still h rfl (by cases g<;>simp[zAH,VR])
 ·cases hs
def zJh(wr:Bool)(op:UnOp)(x:PV):Option Res:=
 match op,x with
 | .not,.bool b=>some (zAH True (.bool !b))
 | .neg,.int k n=>if k= .i64&& !wr then some (zAH (zCn (0-n)) (.int k (0-n))) else some (zAH True (.int k (k.wrap (0-n))))
 | .xor,.int k n=>some (zAH True (.int k (zFU .xor k (if k.signed then -1 else k.max) n)))
 |_,_=>none
theorem zKX{wr:Bool}(h:HRel E F w){op:UnOp}{x:PV}{x':Value}{r:Res}(hs:zJh wr op x=some r)(hvc:r.vc)(hx:VR w (Zn E F w) E x x'):∃v',(Op.unary op x').run P w= .ok v' w∧Gives E F nx w r v' w:=by
 unfold zJh at hs;split at hs
 ·simp only[VR]at hx;subst hx;injection hs with hs;subst hs;exact ⟨_,rfl,Gives.still h rfl (by simp[zAH,VR])⟩
 ·simp only[VR]at hx;subst hx;split at hs
  ·rename_i hk;simp only[zC,decide_eq_true_eq]at hk;obtain ⟨rfl,_⟩:=hk;injection hs with hs;subst hs;refine ⟨_,rfl,Gives.still h rfl ?_⟩;simp only[zAH,VR];rw[wrap_i64 hvc]
  ·injection hs with hs;subst hs;exact ⟨_,rfl,Gives.still h rfl (by simp[zAH,VR])⟩
 ·simp only[VR]at hx;subst hx;injection hs with hs;subst hs;refine ⟨_,rfl,Gives.still h rfl ?_⟩;simp only[zAH,VR];rfl
 ·cases hs
def zDJ(x:PV):Option Res:=
 match x with
 | .ptr n r c=>some (zAH True (.ptr n r c))
 | .fp wd rs r c=>some (zAH True (.fp wd rs r c))
 |_=>none
def zEY(T:Tys)(F:SF)(t:TypeId)(x:PV):Option Res:=
 match T.get t with
 |some {k:=.str,..}=>match x with| .str s=>some (zAH True (.int .i64 s.length))|_=>none
 |some {k:=.slice _,..}=>
  match x with
  | .sl _ _ n=>some (zAH True (.int .i64 n))
  | .fs _ rs=>some (zAH True (.int .i64 rs.length))
  | .nilS=>some (zAH True (.int .i64 0))
  |_=>none
 |some {k:=.map _ _,..}=>
  match x with
  | .mp r=>match F r with|some (.map _ _ ks _)=>some {vc:=True,v:=.int .i64 ks.length,upd:=[],rd:=[r]}|_=>none
  | .fm ks _=>some (zAH True (.int .i64 ks.length))
  |_=>none
 |some {k:=.array n _,..}=>some (zAH True (.int .i64 n))
 |_=>none
theorem zIv(hT:T.Ok P)(h:HRel E F w){t ty:TypeId}{x:PV}{x':Value}{r:Res}(hs:zEY T F t x=some r)(hx:VR w (Zn E F w) E x x'):
  ∃v',(Builtin.len_ #[t] ty #[x']).run P w= .ok v' w∧Gives E F nx w r v' w:=by
 unfold zEY at hs;split at hs
 ·rename_i hti;split at hs;rotate_left;·cases hs
  simp only[VR]at hx;subst hx;injection hs with hs;subst hs;obtain ⟨z,ht⟩:=hT _ _ hti;obtain ⟨d,hd,hk⟩:=ht.run_underlying w;obtain rfl:=zBg hk;rename_i s;exact ⟨.int .i64 s.length,by simp only[Builtin.len_,zB,hd,zD,zF8,zCK];simp[goInt,hd,zCK, -ByteArray.size_data],Gives.still h rfl (by simp[zAH,VR])⟩
 ·rename_i e _ _ _ _ _ hti;obtain ⟨z,ht⟩:=hT _ _ hti;obtain ⟨d,hd,hk⟩:=ht.run_underlying w;obtain rfl:=zAS hk;split at hs
  ·rename_i n row l;injection hs with hs;subst hs;have hx':∃a' c',x'= .slice a' l c':=by
    simp only[VR]at hx;obtain ⟨i,_,h|h⟩:=hx;·obtain ⟨_,rfl,rfl⟩:=h;exact ⟨_,_,rfl⟩
    ·obtain ⟨_,rfl⟩:=h;exact ⟨_,_,rfl⟩
   obtain ⟨a',c',rfl⟩:=hx';exact ⟨.int .i64 l,by simp[Builtin.len_,hd,goInt],Gives.still h rfl (by simp[zAH,VR])⟩
  ·rename_i wd rs;injection hs with hs;subst hs;simp only[VR]at hx;obtain ⟨a,cap,rfl,_⟩:=hx;exact ⟨.int .i64 rs.length,by simp[Builtin.len_,hd,goInt],Gives.still h rfl (by simp[zAH,VR])⟩
  ·injection hs with hs;subst hs;simp only[VR]at hx;subst hx;exact ⟨.int .i64 0,by simp[Builtin.len_,hd,goInt],Gives.still h rfl (by simp[zAH,VR])⟩
  ·cases hs
 ·rename_i hti;obtain ⟨z,ht⟩:=hT _ _ hti;obtain ⟨d,hd,hk⟩:=ht.run_underlying w;obtain rfl:=zDm hk;split at hs
  ·rename_i rn;split at hs;rotate_left;·cases hs
   rename_i own p ks vs hF;injection hs with hs;subst hs;obtain ⟨i,hi,hn,ents,clk,h1,h2,h3⟩:=h.blk _ _ hF;simp only[VR]at hx;obtain ⟨j,hj,hjz,rfl⟩:=hx;rw[hi]at hj;injection hj with hj;subst hj;refine ⟨.int .i64 ks.length,?_,Gives.still h rfl (by simp[VR])⟩;have:=(VRl.get h2).1;simp only[zG,vA]at this;simp[Builtin.len_,hd,getObj,Sem.run,h1,goInt,this]
  ·rename_i ks vs;injection hs with hs;subst hs;simp only[VR]at hx;obtain ⟨r,ents,clk,rfl,q1,q2,q3,q4⟩:=hx;refine ⟨.int .i64 ks.length,?_,Gives.still h rfl (by simp[zAH,VR])⟩;have:=(VRl.get q3).1;simp only[zG,vA]at this;simp[Builtin.len_,hd,getObj,Sem.run,q2,goInt,this]
  ·cases hs
 ·rename_i hti;injection hs with hs;subst hs;obtain ⟨z,ht⟩:=hT _ _ hti;obtain ⟨d,hd,hk⟩:=ht.run_underlying w;obtain rfl:=zBM hk;refine ⟨_,?_,Gives.still h rfl (by simp only[zAH,VR];rfl)⟩;simp only[Builtin.len_];simp[hd,goInt]
 ·cases hs
def zFu(isMax:Bool)(a b:PV):Option Res:=
 match a,b with
 | .int k x,.int k' y=>if k=k' then some (zAH True (.int k (if isMax then max x y else min x y))) else none
 |_,_=>none
theorem zGk(h:HRel E F w){ty:TypeId}{ts:Array TypeId}{isMax:Bool}{a b:PV}{a' b':Value}{r:Res}(hs:zFu isMax a b=some r)(ha:VR w (Zn E F w) E a a')(hb:VR w (Zn E F w) E b b'):
  ∃v',(if isMax then Builtin.max_ ts ty #[a',b'] else Builtin.min_ ts ty #[a',b']).run P w= .ok v' w∧Gives E F nx w r v' w:=by
 unfold zFu at hs;split at hs;rotate_left;·cases hs
 rename_i k x k' y;split at hs;rotate_left;·cases hs
 rename_i hk;subst hk;simp only[VR]at ha hb;subst ha;subst hb;injection hs with hs;subst hs;have hE0:Sx.HRel (fun _=>none) (fun _=>none) w:=⟨fun n b h=>(by cases h),fun n m b c i j h=>(by cases h)⟩;obtain ⟨v',r1,r2⟩:=Sx.zGk (P:=P) (nx:=0) (ty:=ty) (ts:=ts) (isMax:=isMax) (a:=.int k x) (b:=.int k y) (a':=.int k x) (b':=.int k y) (r:=Sx.zAH True (.int k (if isMax then max x y else min x y))) hE0 (by simp[Sx.zFu]) (by simp[Sx.dv]) (by simp[Sx.dv]);obtain ⟨E',q1,_,_⟩:=r2;simp only[Sx.zAH,Sx.dv,zZ]at q1;exact ⟨v',r1,Gives.still h rfl (by simp only[zAH,VR];exact q1.symm)⟩
end
end Go.Tx
end
section
namespace Go.Tx
open Go.Sx (TK tk zBe cellsOf zAD zCh zBI zAB zAO zCn zAS zB1 zBg addr_add zF7 zAw zA5 zAm zAW size_setCells os_setCells)
section
variable {P : Program} {T : Tys} {E : Env} {F : SF} {nx : Nm} {w : World} {Z : Nat → Prop}
theorem VRr.cells{wd o:Nat}{rs:List (List PV)}{cs:Array Value}(hwd:0<wd)(hl:∀row∈rs,row.length=wd)(hv:VRr w Z E rs o cs):
  ∃news:List Value,news.length=rs.length*wd∧(∀(j:Nat) (u:Value),news[j]?=some u→cs[o+j]?=some u∧u.oneCell'=true)∧VRr w Z E rs 0 news.toArray:=by
 have key:∀k,k<rs.length*wd→∃v,cs[o+k]?=some v∧v.oneCell'=true:=by
  intro k hk;have hq:k/wd<rs.length:=by rw[Nat.div_lt_iff_lt_mul hwd];exact hk
  have hrow:=zS (l:=rs) hq;have hl2:=hl _ (zO hrow);have hmod:=vE k hwd;have hc:=zS (l:=rs[k/wd]) (i:=k%wd) (by omega);obtain ⟨v,a1,a2,_⟩:=(zAM hl).1 hv _ _ _ _ hrow hc;refine ⟨v,?_,a2⟩;rw[←a1];congr 1;have:=Nat.div_add_mod k wd;rw[vL]at this;omega
 let news:List Value:=(List.range (rs.length*wd)).map fun k=>(cs[o+k]?).getD undef
 have hg:∀k,k<rs.length*wd→∃v,news[k]?=some v∧cs[o+k]?=some v∧v.oneCell'=true:=by
  intro k hk;obtain ⟨v,a1,a2⟩:=key k hk;exact ⟨v,by simp[news,hk,a1],a1,a2⟩
 have hlen:news.length=rs.length*wd:=by simp[news]
 refine ⟨news,hlen,fun j u hj=>?_,(zAM hl).2 fun r row c x hr hc=>?_⟩
 ·have:=zAB hj;obtain ⟨v,a1,a2,a3⟩:=hg j (by omega);rw[hj]at a1;injection a1 with a1;subst a1;exact ⟨a2,a3⟩
 ·obtain ⟨v,a1,a2,a3⟩:=(zAM hl).1 hv r row c x hr hc;have hrl:=zAB hr;have hcl:=zAB hc;have hrw:=hl _ (zO hr);have hm:(r+1)*wd≤rs.length*wd:=wN _ hrl;have he:(r+1)*wd=r*wd+wd:=wV r wd;obtain ⟨v',b1,b2,b3⟩:=hg (r*wd+c) (by omega);rw[a1]at b2;injection b2 with b2;subst b2;exact ⟨v,by simpa using b1,a2,a3⟩
theorem zU5{wd:Nat}{rs xs:List (List PV)}{cs ds:List Value}{o:Nat}{c0:Array Value}(hl:∀row∈rs,row.length=wd)(hx:∀row∈xs,row.length=wd)(hcs:cs.length=rs.length*wd)
  (h0:∀j,j<cs.length→c0[o+j]?=cs[j]?)(h1:∀j,j<ds.length→c0[o+cs.length+j]?=ds[j]?)(h:VRr w Z E rs 0 cs.toArray)(k:VRr w Z E xs 0 ds.toArray):VRr w Z E (rs++xs) o c0:=by
 have hl':∀row∈rs++xs,row.length=wd:=by
  intro r hr;rcases List.mem_append.1 hr with hr|hr;·exact hl r hr
  ·exact hx r hr
 refine (zAM hl').2 fun r row c x hr hc=>?_
 by_cases hrl:r<rs.length
 ·rw[wO hrl]at hr;obtain ⟨v,a1,a2,a3⟩:=(zAM hl).1 h r row c x hr hc;have:=zAB (l:=cs) (by simpa using a1);exact ⟨v,by rw[h0 _ (by omega)];simpa using a1,a2,a3⟩
 ·rw[wZ (by omega)]at hr;obtain ⟨v,a1,a2,a3⟩:=(zAM hx).1 k _ row c x hr hc;have:=zAB (l:=ds) (by simpa using a1);have hsub:(r-rs.length)*wd+rs.length*wd=r*wd:=by rw[←wF];congr 1;omega
  refine ⟨v,?_,a2,a3⟩;rw[show o+(r*wd+c)=o+cs.length+((r-rs.length)*wd+c) by omega,h1 _ (by omega)];simpa using a1
def zBs(T:Tys)(F:SF)(size:Nat)(xt:TypeId)(x:PV):Option (Prop×Bool×List (List PV)×List Nm):=
 match T.get xt with
 | some {k:=.slice _,..}=>
  match x with
  | .sl m r l=>
   match F m with
   |some (.rows _ wd _ p rs)=>if wd==size then some (r+l≤rs.length,p,(rs.drop r).take l,[m]) else none
   |_=>none
  | .fs wd rs=>if wd==size then some (True,true,rs,[]) else none
  | .nilS=>some (True,true,[],[])
  |_=>none
 |some {k:=.str,..}=>
  match x with
  | .str l=>if size==1 then some (True,true,l.map fun b=>[.int .u8 b.toNat],[]) else none
  |_=>none
 |_=>none
def zBh (T:Tys)(F:SF)(nx:Nm)(t xt:TypeId)(s x:PV):Option Res:=
 match T.get t with
 | some {k:=.slice e,..}=>
  match T.get e with
  | some ei=>
   if ei.size==0 then none else
   match zBs T F ei.size xt x with
   |none=>none
   | some (q,px,xs,rd)=>
    match s with
    | .nilS=>
     some {vc:=q∧xs.length*ei.bytes≤140737488355328∧xs.length≤9223372036854775807,v:=.sl nx 0 xs.length,upd:=[(nx,.rows e ei.size true px xs)],rd:=rd}
    | .sl n 0 l=>
     match F n with
     | some (.rows e' wd true p rs)=>
      if e'==e&&wd==ei.size then
       if rd.contains n then
        some {vc:=q∧l+xs.length≤rs.length,v:=.sl n 0 (l+xs.length),upd:=[(n,.rows e' wd true (p&&px) (rs.take l++xs++rs.drop (l+xs.length)))],rd:=n::rd}
       else
        some {vc:=q∧l=rs.length∧(rs.length+xs.length)*ei.bytes≤140737488355328∧rs.length+xs.length≤9223372036854775807,v:=.sl nx 0 (l+xs.length),upd:=[(n,.dead),(nx,.rows e ei.size true (p&&px) (rs++xs))],rd:=n::rd}
      else none
     |_=>none
    |_=>none
  |none=>none
 |_=>none
def Src(P:Program)(w:World)(Z:Nat→Prop)(E:Env)(size:Nat)(x':Value)(xs:List (List PV)):Prop:=
 (Builtin.lenOf x').run P w= .ok xs.length w∧
 ∃news:List Value,news.length=xs.length*size∧(∀u∈news,u.oneCell'=true)∧VRr w Z E xs 0 news.toArray∧(∀row∈xs,row.length=size)∧
  ∀w2:World,w2.heap=w.heap→(Builtin.firstCells size xs.length x').run P w2= .ok news.toArray w2
theorem zE2(P:Program){b o e wd cap:Nat}{cs:Array Value}{fz:Nat×Nat}{rs:List (List PV)}(hb:w.heap[b]?=some (.cells cs e fz))(hwd:0<wd)(hl:∀row∈rs,row.length=wd)(hv:VRr w Z E rs o cs):
  Src P w Z E wd (.slice (some ⟨b,o,none⟩) rs.length cap) rs:=by
 obtain ⟨news,a1,a2,a3⟩:=VRr.cells hwd hl hv;refine ⟨rfl,news,a1,fun u hu=>?_,a3,hl,fun w2 hw2=>?_⟩
 ·obtain ⟨j,hj⟩:=vW hu;exact (a2 j u hj).2
 ·refine run_firstCells_some w2 wd rs.length ⟨b,o,none⟩ rs.length cap news a1 fun j u hj=>?_
  rw[addr_add];simp only[World.cell?,hw2,hb,vM,wC,if_false];exact (a2 j u hj).1
theorem zE3(P:Program)(size:Nat)(a:Option Addr)(cap:Nat):Src P w Z E size (.slice a 0 cap) []:=by
 refine ⟨rfl,[],by simp,by simp,by simp[VRr],by simp,fun w2 _=>?_⟩;cases a with
 |none=>rfl
 |some a=>simp[Builtin.firstCells,loadCells,loadCellsFrom]
theorem zE1(hT:T.Ok P)(h:HRel E F w){size:Nat}(hsz:0<size){xt:TypeId}{x:PV}{x':Value}{q:Prop}{px:Bool}{xs:List (List PV)}{rd:List Nm}(hs:zBs T F size xt x=some (q,px,xs,rd))(hq:q)(hx:VR w (Zn E F w) E x x'):
  Src P w (Zn E F w) (EE E px) size x' xs∧((∃e2,P.underlying xt=some (.slice e2))∨P.underlying xt=some .string):=by
 unfold zBs at hs;split at hs
 ·rename_i e _ _ _ _ _ hxt;obtain ⟨z,ht⟩:=hT _ _ hxt;obtain ⟨d,hd,hk⟩:=ht.sx.desc;obtain rfl:=zAS hk;refine ⟨?_,.inl ⟨_,hd⟩⟩;split at hs
  ·rename_i m r l;split at hs;rotate_left;·cases hs
   rename_i e0 wd own p rs hF;split at hs;rotate_left;·cases hs
   rename_i hw;simp only[beq_iff_eq]at hw;subst hw;simp only[zZ,wL]at hs;obtain ⟨rfl,rfl,rfl,_⟩:=hs;simp only[VR]at hx;obtain ⟨i,hi,hor⟩:=hx;rcases hor with ⟨hz,rfl,rfl⟩|⟨hz,rfl⟩;·simpa using zE3 P wd i.za 0
   ·have hR:=zAJ h hF hi hz;obtain ⟨cs,fz,b1,b2,b3,b4⟩:=hR.cells;have hlen:((rs.drop r).take l).length=l:=by simp;omega
    have hl':∀row∈(rs.drop r).take l,row.length=wd:=fun row hr=>hR.len row (uE (vR hr))
    have:=zE2 P (cap:=i.n-r) b1 hsz hl' (VRr.drop hR.len b4);rw[hlen]at this;by_cases hl0:l=0
    ·subst hl0;simpa using zE3 P wd (some ⟨i.b,i.o+zJa i r 0,none⟩) (i.n-r)
    ·rw[zDF (by omega),hR.wd_eq];exact this
  ·rename_i wd rs;split at hs;rotate_left;·cases hs
   rename_i hw;simp only[beq_iff_eq]at hw;subst hw;simp only[zZ,wL]at hs;obtain ⟨_,rfl,rfl,_⟩:=hs;simp only[VR]at hx;obtain ⟨a,cap,rfl,h1,h2,h3,h4,hor⟩:=hx;rcases hor with rfl|⟨b,o,cs,e,fz,rfl,q1,q2,q3⟩;·exact zE3 P wd a cap
   ·exact zE2 P q2 h3 h4 q3
  ·simp only[zZ,wL]at hs;obtain ⟨_,rfl,rfl,_⟩:=hs;simp only[VR]at hx;subst hx;exact zE3 P size none 0
  ·cases hs
 ·rename_i _ _ _ _ _ hxt;obtain ⟨z,ht⟩:=hT _ _ hxt;obtain ⟨d,hd,hk⟩:=ht.sx.desc;obtain rfl:=zBg hk;refine ⟨?_,.inr hd⟩;split at hs;rotate_left;·cases hs
  rename_i l;split at hs;rotate_left;·cases hs
  rename_i hw;simp only[beq_iff_eq]at hw;subst hw;simp only[zZ,wL]at hs;obtain ⟨_,rfl,rfl,_⟩:=hs;simp only[VR]at hx;subst hx;refine ⟨?_,l.map fun b=>.int .u8 b.toNat,by simp,by simp[Value.oneCell'],?_,by simp,fun w2 _=>?_⟩;·simp[Builtin.lenOf,zF8,ByteArray.size]
  ·refine (zAM (wd:=1) (by simp)).2 fun r row c v hr hc=>?_
   rw[wE]at hr;cases hb:l[r]? with
   |none=>rw[hb]at hr;cases hr
   |some b=>
    rw[hb]at hr;simp only[wJ,zZ]at hr;subst hr;have hc0:c=0:=by have:=zAB hc;simp at this;exact this
    subst hc0;simp at hc;subst hc;exact ⟨.int .u8 b.toNat,by simp[hb],rfl,by simp[VR]⟩
  ·simp only[Builtin.firstCells,zF8,zI];congr 1;have:(ByteArray.extract ⟨l.toArray⟩ 0 (l.map fun b=>[PV.int .u8 b.toNat]).length)=⟨l.toArray⟩:=by
    rw[zFx];simp
   rw[this];simp
 ·cases hs
theorem run_append_grow'(t xt ty e:TypeId)(i:TypeInfo)(z:Value)(ht:P.underlying t=some (.slice e))(hd:(∃e2,P.underlying xt=some (.slice e2))∨P.underlying xt=some .string)(hi:P.info? e=some i)(hz:i.zero=some z)
  (base:Option Addr)(sLen sCap:Nat)(olds news:List Value)(x':Value)(n:Nat)(hlen:(Builtin.lenOf x').run P w= .ok n w)
  (hold:(Builtin.firstCells i.size sLen (.slice base sLen sCap)).run P w.drew= .ok olds.toArray w.drew)(hnew:(Builtin.firstCells i.size n x').run P w.drew= .ok news.toArray w.drew)
  (hg:sCap<sLen+n)(h63:((sLen+n:Nat):Int)≤9223372036854775807)(hfit:Builtin.nextslicecap (sLen+n) sCap*i.bytes≤281474976710656):
  (Builtin.append_ #[t,xt] ty #[.slice base sLen sCap,x']).run P w=
   .ok (.slice (some ⟨w.heap.size,0,none⟩) (sLen+n) (grownCap w (sLen+n) sCap e)) (w.drew.alloc (.cells (olds.toArray++news.toArray++Builtin.zeroCells z.cells (grownCap w (sLen+n) sCap e-(sLen+n))) e)):=by
 have hn:¬(sLen+n≤sCap):=by omega
 have h63':¬(9223372036854775807<((sLen:Int)+(n:Int))):=by omega
 have h48':¬(281474976710656<Builtin.nextslicecap (sLen+n) sCap*i.bytes):=by omega
 rcases hd with ⟨e2,hd⟩|hd<;>simp[Builtin.append_,run_underlying ht,run_underlying hd,sizeOf,typeInfo,zeroValue,hi,hz,hlen,hn,h63',h48',Question.forced,hold,hnew,newRow,grownCap]<;>(congr 2;rw[←Array.append_assoc];simp)
theorem run_append_room'(t xt ty e:TypeId)(i:TypeInfo)(ht:P.underlying t=some (.slice e))(hd:(∃e2,P.underlying xt=some (.slice e2))∨P.underlying xt=some .string)(hi:P.info? e=some i)
  (a:Addr)(sLen sCap:Nat)(news:List Value)(x':Value)(n:Nat)(hlen:(Builtin.lenOf x').run P w= .ok n w)(hnew:(Builtin.firstCells i.size n x').run P w= .ok news.toArray w)
  (hg:sLen+n≤sCap){w':World}(hst:(storeCells (a.add (sLen*i.size)) news).run P w= .ok () w'):
  (Builtin.append_ #[t,xt] ty #[.slice (some a) sLen sCap,x']).run P w= .ok (.slice (some a) (sLen+n) sCap) w':=by
 rcases hd with ⟨e2,hd⟩|hd<;>simp[Builtin.append_,run_underlying ht,run_underlying hd,sizeOf,typeInfo,hi,hlen,hg,hnew,hst]
theorem zCP(t xt ty e:TypeId)(i:TypeInfo)(ht:P.underlying t=some (.slice e))(hd:(∃e2,P.underlying xt=some (.slice e2))∨P.underlying xt=some .string)(hi:P.info? e=some i)
  (base:Option Addr)(x':Value)(hlen:(Builtin.lenOf x').run P w= .ok 0 w)(hnew:(Builtin.firstCells i.size 0 x').run P w= .ok #[] w):
  (Builtin.append_ #[t,xt] ty #[.slice base 0 0,x']).run P w=(match base with|some a=>(storeCells a []).run P w|none=>.ok () w).andThen fun _ w'=>.ok (.slice base 0 0) w':=by
 rcases hd with ⟨e2,hd⟩|hd<;>cases base<;>simp[Builtin.append_,run_underlying ht,run_underlying hd,sizeOf,typeInfo,hi,hlen,hnew,Addr.add]
end
end Go.Tx
end
section
namespace Go.Tx
open Go.Sx (TK tk zBe cellsOf zAD zCh zBI zAB zAO zCn zAS zB1 zBg addr_add zF7 zAw zA5 zAm zAW size_setCells os_setCells)
section
variable {P : Program} {T : Tys} {E : Env} {F : SF} {nx : Nm} {w : World}
theorem zUX(h:HRel E F w)(hE:E nx=none){t:TypeId}{wd cap:Nat}{rs:List (List PV)}{cs:List Value}{rest:Array Value}{p:Bool}(hwd:0<wd)(hl:∀row∈rs,row.length=wd)(hcs:cs.length=rs.length*wd)
  (hv:VRr w (Zn E F w) (EE E p) rs 0 cs.toArray)(hle:rs.length≤cap)(hcap:cap≤maxLen)(hrest:rest.size=(cap-rs.length)*wd)(fz:Nat×Nat)(hfz:∀j,j<cap*wd→¬(fz.1≤j∧j<fz.2)):
  StepR E F w (E.set nx ⟨w.heap.size,0,wd,cap,false,none⟩) (F.set nx (.rows t wd true p rs)) (w.alloc (.cells (cs.toArray++rest) t fz)):=by
 refine zUY h hE _ ⟨w.heap.size,0,wd,cap,false,none⟩ _ rfl fun Z' hZ=>?_
 have hle':=zUV (i:=⟨w.heap.size,0,wd,cap,false,none⟩) hE;have hX:Ext E w (Zn E F w) (E.set nx ⟨w.heap.size,0,wd,cap,false,none⟩) (w.alloc (.cells (cs.toArray++rest) t fz)) Z':=⟨hle',hZ,fun b hb=>RowKit.Below.heap_alloc w _ b hb.1⟩;have hv':=VRr.mono (hX.EE p) _ _ _ hv;refine ⟨_,zUO _ _ _,.inr ⟨rfl,rfl,rfl,hwd,hl,hle,hcap,cs.toArray++rest,fz,?_,?_,?_,?_⟩⟩
 ·show (w.heap.push _)[w.heap.size]?=_;simp
 ·simp only[Array.size_append,uO,hcs,hrest,←wF];rw[show rs.length+(cap-rs.length)=cap by omega];omega
 ·intro _ j _ hj;exact hfz j (by simpa using hj)
 ·refine (zAM hl).2 fun r row c v hr hc=>?_
  obtain ⟨v',a1,a2,a3⟩:=(zAM hl).1 hv' r row c v hr hc;have:=zAB (l:=cs) (by simpa using a1);exact ⟨v',by rw[uR (by simp;omega)];exact a1,a2,a3⟩
theorem zUe(h:HRel E F w)(hE:E nx=none)(t:TypeId){wd:Nat}(hwd:0<wd)(p:Bool)(a:Option Addr):StepR E F w (E.set nx ⟨0,0,wd,0,true,a⟩) (F.set nx (.rows t wd true p [])) w:=by
 have hle:=zUV (i:=⟨0,0,wd,0,true,a⟩) hE;have hN:NewAt E F w (E.set nx ⟨0,0,wd,0,true,a⟩) (F.set nx (.rows t wd true p [])) w:=by
  refine ⟨hle,rfl,rfl,rfl,zH _,fun _ _ _=>rfl,?_⟩;intro n b i hf ho hi hin;unfold SF.set at hf;by_cases hn:n=nx;·subst hn;rw[zUO]at hi;injection hi with hi;subst hi;cases hin
  ·rw[if_neg hn]at hf;rw[zUP E _ hn]at hi;exact .inr ⟨n,b,i,hf,ho,hi,hin,rfl⟩
 refine hN.step ⟨?_,?_⟩
 ·intro n b hf;unfold SF.set at hf;split at hf
  ·rename_i hn;subst hn;injection hf with hf;subst hf;exact ⟨_,zUO _ _ _,.inl ⟨rfl,rfl,rfl,hwd⟩⟩
  ·exact (h.blk n b hf).mono hN.ext fun _ _ _=>rfl
 ·intro n m b c i j hf hg hnm ho hl hi hj hin hjn;unfold SF.set at hf hg;by_cases hn:n=nx;·subst hn;rw[zUO]at hi;injection hi with hi;subst hi;cases hin
  ·by_cases hm:m=nx;·subst hm;rw[zUO]at hj;injection hj with hj;subst hj;cases hjn
   ·rw[if_neg hn]at hf;rw[if_neg hm]at hg;rw[zUP E _ hn]at hi;rw[zUP E _ hm]at hj;exact h.sep n m b c i j hf hg hnm ho hl hi hj hin hjn
def SLe(F' F:SF):Prop:=∀n b,F' n=some b→b= .dead∨F n=some b∨
 (∃e wd p rs,F n=some (.rows e wd true p rs)∧b= .rows e wd false p rs)∨(∃p ks vs,F n=some (.map true p ks vs)∧b= .map false p ks vs)
theorem SLe.refl(F:SF):SLe F F:=fun _ _ h=>.inr (.inl h)
theorem SLe.own{F' F:SF}(h:SLe F' F){n:Nm}{b:SBlk}(hb:F' n=some b)(ho:b.own=true):F n=some b:=by
 rcases h n b hb with rfl|h|⟨_,_,_,_,_,rfl⟩|⟨_,_,_,_,rfl⟩;·cases ho
 ·exact h
 ·cases ho
 ·cases ho
theorem SLe.live{F' F:SF}(h:SLe F' F){n:Nm}{b:SBlk}(hb:F' n=some b)(ho:b.live=true):∃c,F n=some c∧c.live=true:=by
 rcases h n b hb with rfl|h|⟨_,_,_,_,h,rfl⟩|⟨_,_,_,h,rfl⟩;·cases ho
 ·exact ⟨_,h,ho⟩
 ·exact ⟨_,h,rfl⟩
 ·exact ⟨_,h,rfl⟩
theorem zUS(h:HRel E F w){F':SF}(hs:SLe F' F):StepR E F w E F' w:=by
 have hN:NewAt E F w E F' w:=⟨Env.le.refl _,rfl,rfl,rfl,zH _,fun _ _ _=>rfl,fun n b i hf ho hi hin=>.inr ⟨n,b,i,hs.own hf ho,ho,hi,hin,rfl⟩⟩;refine hN.step ⟨fun n b hf=>?_,fun n m b c i j hf hg hnm ho hl hi hj hin hjn=>?_⟩
 ·rcases hs n b hf with rfl|h1|⟨e,wd,p,rs,h1,rfl⟩|⟨p,ks,vs,h1,rfl⟩;·trivial
  ·exact (h.blk n b h1).mono hN.ext fun _ _ _=>rfl
  ·obtain ⟨i,hi,hor⟩:=h.blk n _ h1;refine ⟨i,hi,hor.imp id fun ⟨q1,q2⟩=>⟨q1,?_⟩⟩;have q3:=q2.mono (hN.ext.EE p) rfl;exact ⟨q3.wd_eq,q3.o0,q3.wd_pos,q3.len,q3.le,q3.cap,let ⟨cs,fz,a1,a2,a3,a4⟩:=q3.cells;⟨cs,fz,a1,a2,(fun hh=>by cases hh),a4⟩⟩
  ·exact (h.blk n _ h1).mono (b:=.map true p ks vs) hN.ext fun _ _ _=>rfl
 ·obtain ⟨c',h1,h2⟩:=hs.live hg hl;exact h.sep n m b c' i j (hs.own hf ho) h1 hnm ho h2 hi hj hin hjn
theorem zUc(h:HRel E F w)(n:Nm):StepR E F w E (F.set n .dead) w:=by
 refine zUS h fun m b hb=>?_
 unfold SF.set at hb;split at hb;·injection hb with hb;exact .inl hb.symm
 ·exact .inr (.inl hb)
theorem zUj(h:HRel E F w)(hE:E nx=none){n:Nm}{e:TypeId}{wd:Nat}{p px:Bool}{rs xs:List (List PV)}{i:BI}(hF:F n=some (.rows e wd true p rs))(hi:E n=some i)(hn:i.z=false)
  {news:List Value}(hl:news.length=xs.length*wd)(hone:∀u∈news,u.oneCell'=true)(hv:VRr w (Zn E F w) (EE E px) xs 0 news.toArray)(hxl:∀row∈xs,row.length=wd)(hroom:rs.length+xs.length≤i.n):
  ∃w',(storeCells ⟨i.b,i.o+(rs.length*wd),none⟩ news).run P w= .ok () w'∧
  StepR E F w (E.set nx i) ((F.set n .dead).set nx (.rows e wd true (p&&px) (rs++xs))) w':=by
 have hR:=zAJ h hF hi hn;obtain ⟨cs,fz,b1,b2,b3,b4⟩:=hR.cells;have hm:(rs.length+xs.length)*wd≤i.n*wd:=wN _ hroom;rw[wF]at hm;have hle:=zUV (i:=i) hE;have hlt:i.b<w.heap.size:=(h.blk n _ hF).lt rfl hi hn;have hrun:=run_storeCells_cells (P:=P) i.b (i.o+rs.length*wd) news 0 w
  (fun j hj=>by
   simp only[World.cell?,b1,vM,wC,if_false];rw[qH (by omega)];rfl)
  (fun j hj=>by
   have:=b3 rfl (i.o+rs.length*wd+0+j) (by omega) (by omega);simp only[World.frozen?,b1];simpa using this) hone
 have hheap:=zAm i.b e fz news (i.o+rs.length*wd+0) cs w b1;have hother:=fun k (hk:k≠i.b)=>zAW i.b k hk news (i.o+rs.length*wd+0) w
 have hsize:=size_setCells i.b news (i.o+rs.length*wd+0) w;obtain ⟨hos,htape,hout⟩:=os_setCells i.b news (i.o+rs.length*wd+0) w;generalize w.setCells i.b (i.o+rs.length*wd+0) news=w' at *;refine ⟨w',hrun,?_⟩;have hN:NewAt E F w (E.set nx i) ((F.set n .dead).set nx (.rows e wd true (p&&px) (rs++xs))) w':=by
  refine ⟨hle,hos,htape,hout,by omega,?_,?_⟩
  ·intro k hk hno;exact hother k (fun e=>hno n _ i hF rfl hi hn e.symm)
  ·intro m b q hm' hb hq hqn;unfold SF.set at hm';by_cases hmx:m=nx
   ·subst hmx;rw[zUO]at hq;injection hq with hq;subst hq;exact .inr ⟨n,_,i,hF,rfl,hi,hn,rfl⟩
   ·rw[if_neg hmx]at hm';rw[zUP E _ hmx]at hq;split at hm';·injection hm' with hm';subst hm';cases hb
    ·exact .inr ⟨m,b,q,hm',hb,hq,hqn,rfl⟩
 refine hN.step ⟨?_,?_⟩
 ·intro m b hm';unfold SF.set at hm';split at hm'
  ·rename_i hmn;subst hmn;injection hm' with hm';subst hm';have hX1:Ext (EE E p) w (Zn E F w) (EE (E.set m i) (p&&px)) w' (Zn (E.set m i) ((F.set n .dead).set m (.rows e wd true (p&&px) (rs++xs))) w'):=by
    refine ⟨?_,hN.ext.zone,hN.ext.heap⟩;cases p with
    |true=>exact zUT _
    |false=>exact hle
   have hX2:Ext (EE E px) w (Zn E F w) (EE (E.set m i) (p&&px)) w' (Zn (E.set m i) ((F.set n .dead).set m (.rows e wd true (p&&px) (rs++xs))) w'):=by
    refine ⟨?_,hN.ext.zone,hN.ext.heap⟩;cases px with
    |true=>exact zUT _
    |false=>simp only[vJ];exact hle
   have v1:=VRr.mono hX1 _ _ _ b4;have v2:=VRr.mono hX2 _ _ _ hv;have hxr:∀row∈rs++xs,row.length=wd:=by
    intro x hx;rcases List.mem_append.1 hx with hx|hx;·exact hR.len x hx
    ·exact hxl x hx
   refine ⟨i,zUO _ _ _,.inr ⟨hn,hR.wd_eq,hR.o0,hR.wd_pos,hxr,by simpa using hroom,hR.cap,_,fz,hheap,by rw[zAw];exact b2,b3,?_⟩⟩;refine (zAM hxr).2 fun r row c v hr hc=>?_
   rw[zA5 _ _ _ _ (by omega)];by_cases hrl:r<rs.length
   ·rw[wO hrl]at hr;obtain ⟨v',a1,a2,a3⟩:=(zAM hR.len).1 v1 r row c v hr hc;have hcl:=zAB hc;have hwd:=hR.len _ (zO hr);have hm2:(r+1)*wd≤rs.length*wd:=wN _ hrl;have he2:(r+1)*wd=r*wd+wd:=wV r wd;rw[if_neg (by omega)];exact ⟨v',a1,a2,a3⟩
   ·rw[wZ (by omega)]at hr;obtain ⟨v',a1,a2,a3⟩:=(zAM hxl).1 v2 _ row c v hr hc;have hj:=zAB (l:=news) (by simpa using a1);have hsub:(r-rs.length)*wd+rs.length*wd=r*wd:=by rw[←wF];congr 1;omega
    rw[if_pos (by omega),show i.o+(r*wd+c)-(i.o+rs.length*wd+0)=(r-rs.length)*wd+c by omega];exact ⟨v',by simpa using a1,a2,a3⟩
  ·rename_i hmx;split at hm';·injection hm' with hm';subst hm';trivial
   ·rename_i hmn;by_cases hl:b.live=true;rotate_left;·exact (h.blk m b hm').still hl hN.ext.le
    refine (h.blk m b hm').mono hN.ext fun j hj hjn=>hother _ ?_
    exact fun e=>h.sep n m _ b i j hF hm' (fun e=>hmn e.symm) rfl hl hi hj hn hjn e.symm
 ·intro m k b d a q hm' hk hmk hb hd ha hq han hqn;unfold SF.set at hm' hk;by_cases hmx:m=nx
  ·subst hmx;rw[zUO]at ha;injection ha with ha;subst ha;rw[if_neg (fun e=>hmk e.symm)]at hk;rw[zUP E _ (fun e=>hmk e.symm)]at hq;split at hk;·injection hk with hk;subst hk;cases hd
   ·rename_i hkn;exact h.sep n k _ d i q hF hk (fun e=>hkn e.symm) rfl hd hi hq hn hqn
  ·rw[if_neg hmx]at hm';rw[zUP E _ hmx]at ha;split at hm';·injection hm' with hm';subst hm';cases hb
   rename_i hmn;by_cases hkx:k=nx
   ·subst hkx;rw[zUO]at hq;injection hq with hq;subst hq;exact h.sep m n b _ a i hm' hF hmn hb rfl ha hi han hn
   ·rw[if_neg hkx]at hk;rw[zUP E _ hkx]at hq;split at hk;·injection hk with hk;subst hk;cases hd
    ·exact h.sep m k b d a q hm' hk hmk hb hd ha hq han hqn
theorem zHR{n:Nm}{i:BI}{Z:Nat→Prop}(hi:E n=some i)(hz:i.z=false)(l:Nat):VR w Z E (.sl n 0 l) (.slice (some ⟨i.b,i.o,none⟩) l i.n):=by
 simp only[VR];exact ⟨i,hi,.inr ⟨hz,by simp[zBf]⟩⟩
theorem zBU{n cap bytes:Nat}(h:cap<n)(hb:n*bytes≤140737488355328):Builtin.nextslicecap n cap*bytes≤281474976710656:=growslice_fits h (by omega)
theorem zUp(h:HRel E F w){n:Nm}{e:TypeId}{wd:Nat}{p px:Bool}{rs xs:List (List PV)}{i:BI}(hF:F n=some (.rows e wd true p rs))(hi:E n=some i)(hz:i.z=false)
  {news:List Value}(hl:news.length=xs.length*wd)(hone:∀u∈news,u.oneCell'=true)(hv:VRr w (Zn E F w) (EE E px) xs 0 news.toArray)(hxl:∀row∈xs,row.length=wd){a:Nat}(hroom:a+xs.length≤rs.length):
  ∃w',(storeCells ⟨i.b,i.o+a*wd,none⟩ news).run P w= .ok () w'∧StepR E F w E (F.set n (.rows e wd true (p&&px) (rs.take a++xs++rs.drop (a+xs.length)))) w':=by
 have hR:=zAJ h hF hi hz;obtain ⟨cs,fz,b1,b2,b3,b4⟩:=hR.cells;have hle:=hR.le;have hm:(a+xs.length)*wd≤i.n*wd:=wN _ (by omega);rw[wF]at hm;have hrun:=run_storeCells_cells (P:=P) i.b (i.o+a*wd) news 0 w
  (fun j hj=>by
   simp only[World.cell?,b1,vM,wC,if_false];rw[qH (by omega)];rfl)
  (fun j hj=>by
   have:=b3 rfl (i.o+a*wd+0+j) (by omega) (by omega);simp only[World.frozen?,b1];simpa using this) hone
 have hheap:=zAm i.b e fz news (i.o+a*wd+0) cs w b1;have hother:=fun k (hk:k≠i.b)=>zAW i.b k hk news (i.o+a*wd+0) w
 have hsize:=size_setCells i.b news (i.o+a*wd+0) w;obtain ⟨hos,htape,hout⟩:=os_setCells i.b news (i.o+a*wd+0) w;generalize w.setCells i.b (i.o+a*wd+0) news=w' at *;refine ⟨w',hrun,zUi h hF rfl rfl hi hz hother hsize hos htape hout fun hX=>?_⟩;have hX1:Ext (EE E p) w (Zn E F w) (EE E (p&&px)) w' (Zn E (F.set n (.rows e wd true (p&&px) (rs.take a++xs++rs.drop (a+xs.length)))) w'):=by
  refine ⟨?_,hX.zone,hX.heap⟩;cases p with
  |true=>exact zUT _
  |false=>exact Env.le.refl _
 have hX2:Ext (EE E px) w (Zn E F w) (EE E (p&&px)) w' (Zn E (F.set n (.rows e wd true (p&&px) (rs.take a++xs++rs.drop (a+xs.length)))) w'):=by
  refine ⟨?_,hX.zone,hX.heap⟩;cases px with
  |true=>exact zUT _
  |false=>simp only[vJ];exact Env.le.refl _
 have v1:=VRr.mono hX1 _ _ _ b4;have v2:=VRr.mono hX2 _ _ _ hv;have hxr:∀row∈rs.take a++xs++rs.drop (a+xs.length),row.length=wd:=by
  intro x hx;rcases List.mem_append.1 hx with hx|hx
  ·rcases List.mem_append.1 hx with hx|hx;·exact hR.len x (vR hx)
   ·exact hxl x hx
  ·exact hR.len x (uE hx)
 have htl:(rs.take a).length=a:=by simp;omega
 refine ⟨i,hi,.inr ⟨hz,hR.wd_eq,hR.o0,hR.wd_pos,hxr,by simp;omega,hR.cap,_,fz,hheap,by rw[zAw];exact b2,b3,?_⟩⟩;refine (zAM hxr).2 fun r row c v hr hc=>?_
 have hcl:=zAB hc;have hwd:=hxr _ (zO hr);rw[zA5 _ _ _ _ (by omega)];by_cases h1:r<a
 ·rw[vO,wO (by omega),uB,if_pos h1]at hr;obtain ⟨v',a1,a2,a3⟩:=(zAM hR.len).1 v1 r row c v hr hc;have hm2:(r+1)*wd≤a*wd:=wN _ h1;have he2:(r+1)*wd=r*wd+wd:=wV r wd;rw[if_neg (by omega)];exact ⟨v',a1,a2,a3⟩
 ·by_cases h2:r<a+xs.length
  ·rw[vO,wZ (by omega),htl,wO (by omega)]at hr;obtain ⟨v',a1,a2,a3⟩:=(zAM hxl).1 v2 _ row c v hr hc;obtain ⟨x,rfl⟩:∃x,r=a+x:=⟨r-a,by omega⟩;rw[Nat.add_sub_cancel_left]at a1;have hm2:(x+1)*wd≤xs.length*wd:=wN _ (by omega);have he2:(x+1)*wd=x*wd+wd:=wV x wd;have he3:(a+x)*wd=a*wd+x*wd:=wF a x wd;rw[if_pos (by omega)];refine ⟨v',?_,a2,a3⟩;rw[←a1,wR];congr 1;omega
  ·rw[wZ (by simp;omega),vX]at hr;have hrr:rs[r]?=some row:=by
    rw[←hr];congr 1;simp;omega
   obtain ⟨v',a1,a2,a3⟩:=(zAM hR.len).1 v1 r row c v hrr hc;have hm2:(a+xs.length)*wd≤r*wd:=wN _ (by omega);rw[wF]at hm2;rw[if_neg (by omega)];exact ⟨v',a1,a2,a3⟩
theorem zVE(h:HRel E F w){n:Nm}{e:TypeId}{wd:Nat}{p px:Bool}(hF:F n=some (.rows e wd true p [])):StepR E F w E (F.set n (.rows e wd true (p&&px) (List.take 0 []++[]++List.drop (0+0) []))) w:=by
 obtain ⟨i,hi,hor⟩:=h.blk n _ hF;have hset:∀m b,(F.set n (.rows e wd true (p&&px) (List.take 0 []++[]++List.drop (0+0) []))) m=some b→∃c,F m=some c∧c.own=b.own∧c.live=b.live:=by
  intro m b hm;unfold SF.set at hm;split at hm;·rename_i he;subst he;injection hm with hm;subst hm;exact ⟨_,hF,rfl,rfl⟩
  ·exact ⟨b,hm,rfl,rfl⟩
 have hzone:∀q,Zn E F w q→Zn E (F.set n (.rows e wd true (p&&px) (List.take 0 []++[]++List.drop (0+0) []))) w q:=by
  rintro q ⟨k1,k2⟩
  refine ⟨k1,fun m b j hm ho hj hz=>?_⟩;obtain ⟨c,c1,c2,_⟩:=hset m b hm;exact k2 m c j c1 (c2.trans ho) hj hz
 refine ⟨Env.le.refl _,⟨fun m b hm=>?_,fun m k b d a q hm hk hmk hbo hd ha hq han hqn=>?_⟩,rfl,rfl,rfl,zH _,fun _ _ _=>rfl,fun m b j hm ho hj hz=>?_⟩
 ·unfold SF.set at hm;split at hm
  ·rename_i he;subst he;injection hm with hm;subst hm;refine ⟨i,hi,?_⟩;rcases hor with ⟨q1,q2,q3,q4⟩|⟨q1,q2⟩;·exact .inl ⟨q1,rfl,q3,q4⟩
   ·obtain ⟨cs,fz,b1,b2,b3,b4⟩:=q2.cells;exact .inr ⟨q1,q2.wd_eq,q2.o0,q2.wd_pos,by simp,by simp,q2.cap,cs,fz,b1,b2,b3,by simp[VRr]⟩
  ·exact (h.blk m b hm).mono ⟨Env.le.refl _,hzone,fun _ _=>rfl⟩ fun _ _ _=>rfl
 ·obtain ⟨c1,e1,e2,_⟩:=hset m b hm;obtain ⟨c2,f1,_,f2⟩:=hset k d hk;exact h.sep m k c1 c2 a q e1 f1 hmk (e2.trans hbo) (f2.trans hd) ha hq han hqn
 ·obtain ⟨c,c1,c2,_⟩:=hset m b hm;exact .inr ⟨m,c,j,c1,c2.trans ho,hj,hz,rfl⟩
theorem append_empty(hT:T.Ok P)(h:HRel E F w)(hE:E nx=none){t xt ty e:TypeId}{ei:TI}(hu:P.underlying t=some (.slice e))(hd:(∃e2,P.underlying xt=some (.slice e2))∨P.underlying xt=some .string)(hei:T.get e=some ei)(hsz:0<ei.size){x':Value}{xs:List (List PV)}{px:Bool}
  (hsrc:Src P w (Zn E F w) (EE E px) ei.size x' xs)(hb:xs.length*ei.bytes≤140737488355328)(hm:xs.length≤9223372036854775807)(a:Option Addr):
  ∃v' w' E',(Builtin.append_ #[t,xt] ty #[.slice a 0 0,x']).run P w= .ok v' w'∧VR w' (Zn E' (F.set nx (.rows e ei.size true px xs)) w') E' (.sl nx 0 xs.length) v'∧
   StepR E F w E' (F.set nx (.rows e ei.size true px xs)) w'∧FreshIn E E' nx:=by
 obtain ⟨z,ht⟩:=hT _ _ hei;obtain ⟨ix,hx,hx0,hx1,hx2⟩:=ht.sx.info;simp only at hx0 hx1 hx2;obtain ⟨hlen,news,a1,a2,a3,a4,a5⟩:=hsrc;by_cases h0:xs.length=0
 ·have hxs:xs=[]:=vI h0;subst hxs;have hnews:news=[]:=vI (by simpa using a1);subst hnews;refine ⟨.slice a 0 0,w,E.set nx ⟨0,0,ei.size,0,true,a⟩,?_,?_,zUe h hE e hsz px a,FreshIn.set⟩
  ·rw[zCP t xt ty e ix hu hd hx a x' hlen (by rw[hx1];exact a5 w rfl)];cases a<;>rfl
  ·simp only[VR];exact ⟨_,zUO _ _ _,.inl ⟨rfl,rfl,rfl⟩⟩
 ·have hold:(Builtin.firstCells ix.size 0 (.slice a 0 0)).run P w.drew= .ok (([]:List Value).toArray) w.drew:=by
   cases a with
   |none=>rfl
   |some a=>simp[Builtin.firstCells,loadCells,loadCellsFrom]
  have hr:=run_append_grow' (P:=P) (w:=w) t xt ty e ix z hu hd hx hx0 a 0 0 [] news x' xs.length hlen hold (by rw[hx1];exact a5 w.drew rfl) (by omega) (by omega)
   (zBU (by omega) (by rw[hx2];simpa using hb))
  have hge:=grownCap_ge w (0+xs.length) 0 e;have hcm:=grownCap_le_maxLen w (0+xs.length) 0 e (by unfold maxLen;omega);have hrest:(Builtin.zeroCells z.cells (grownCap w (0+xs.length) 0 e-(0+xs.length))).size=(grownCap w (0+xs.length) 0 e-xs.length)*ei.size:=by
   rw[size_zeroCells,←vA,zAD,ht.sz];simp
  have hS:=zUX (t:=e) h hE hsz a4 a1 a3 (by omega) hcm hrest (0,0) (by simp);refine ⟨_,_,E.set nx ⟨w.heap.size,0,ei.size,grownCap w (0+xs.length) 0 e,false,none⟩,hr,?_,?_,FreshIn.set⟩
  ·simp only[zP];exact zHR (zUO _ _ _) rfl _
  ·have hS':=hS.drew;simp only[zP]at hS' ⊢;rw[show (#[]:Array Value)++news.toArray=news.toArray by simp];exact hS'
theorem zFw(hT:T.Ok P)(h:HRel E F w)(hE:E nx=none){t xt ty:TypeId}{s x:PV}{s' x':Value}{r:Res}(hs:zBh T F nx t xt s x=some r)(hvc:r.vc)(hds:VR w (Zn E F w) E s s')(hdx:VR w (Zn E F w) E x x'):
  ∃v' w',(Builtin.append_ #[t,xt] ty #[s',x']).run P w= .ok v' w'∧Gives E F nx w r v' w':=by
 unfold zBh at hs;split at hs;rotate_left;·cases hs
 rename_i e _ _ _ _ _ hti;split at hs;rotate_left;·cases hs
 rename_i ei hei;split at hs;·cases hs
 rename_i hsz;simp only[beq_iff_eq]at hsz;obtain ⟨z0,ht0⟩:=hT _ _ hti;obtain ⟨d,hd,hk⟩:=ht0.sx.desc;obtain rfl:=zAS hk;obtain ⟨z,ht⟩:=hT _ _ hei;obtain ⟨ix,hx,hx0,hx1,hx2⟩:=ht.sx.info;simp only at hx0 hx1 hx2;split at hs;·cases hs
 rename_i q px xs rd hsrc;split at hs
 ·injection hs with hs;subst hs;obtain ⟨hp,hb,hm⟩:=hvc;simp only[VR]at hds;subst hds;obtain ⟨s1,s2⟩:=zE1 hT h (by omega) hsrc hp hdx;obtain ⟨v',w',E',r1,r2,r3,r4⟩:=append_empty hT h hE (ty:=ty) hd s2 hei (by omega) s1 hb hm none;exact ⟨v',w',r1,E',r2,r3,r4⟩
 ·rename_i n l;split at hs;rotate_left;·cases hs
  rename_i e' wd p rs hF;split at hs;rotate_left;·cases hs
  rename_i hc2;simp only[zC,beq_iff_eq]at hc2;obtain ⟨rfl,rfl⟩:=hc2;split at hs
  ·injection hs with hs;subst hs;obtain ⟨hp,hroom⟩:=hvc;obtain ⟨s1,s2⟩:=zE1 hT h (by omega) hsrc hp hdx;simp only[VR]at hds;obtain ⟨i,hi,hor⟩:=hds;rcases hor with ⟨hz,hl0,rfl⟩|⟨hz,rfl⟩
   ·-- no cells
    have hrs:rs=[]:=by
     obtain ⟨j,hj,hq⟩:=h.blk n _ hF;rw[hi]at hj;injection hj with hj;subst hj;rcases hq with ⟨_,q,_⟩|⟨q,_⟩;·exact q
     ·rw[hz]at q;cases q
    subst hrs;subst hl0;simp only[wW,zP,Nat.le_zero_eq,List.length_eq_zero_iff]at hroom;subst hroom;obtain ⟨hlen,news,a1,a2,a3,a4,a5⟩:=s1;have hnews:news=[]:=vI (by simpa using a1);subst hnews;refine ⟨.slice i.za 0 0,w,?_,E,?_,?_,FreshIn.refl _ _⟩
    ·rw[zCP t xt ty e' ix hd s2 hx i.za x' hlen (by rw[hx1];exact a5 w rfl)];cases i.za<;>rfl
    ·simp only[VR];exact ⟨i,hi,.inl ⟨hz,rfl,rfl⟩⟩
    ·exact zVE h hF
   ·have hR:=zAJ h hF hi hz;obtain ⟨hlen,news,a1,a2,a3,a4,a5⟩:=s1;simp only[zBf,wH,vH];have hle:=hR.le;obtain ⟨w',e1,e2⟩:=zUp (P:=P) h hF hi hz a1 a2 a3 a4 hroom;refine ⟨_,w',run_append_room' t xt ty e' ix hd s2 hx ⟨i.b,i.o,none⟩ l i.n news x' xs.length hlen (by rw[hx1];exact a5 w rfl) (by omega) (by rw[addr_add,hx1];exact e1),E,?_,e2,FreshIn.refl _ _⟩;simp only[VR];exact ⟨i,hi,.inr ⟨hz,by simp[zBf]⟩⟩
  injection hs with hs;subst hs;obtain ⟨hp,rfl,hb,hm⟩:=hvc;obtain ⟨s1,s2⟩:=zE1 hT h (by omega) hsrc hp hdx;simp only[VR]at hds;obtain ⟨i,hi,hor⟩:=hds;rcases hor with ⟨hz,hl0,rfl⟩|⟨hz,rfl⟩
  ·have hrs:rs=[]:=vI hl0;subst hrs;have hf:=zUc h n;simp only[wW,zP,zF]at hb hm ⊢;have s1':Src P w (Zn E (F.set n .dead) w) (EE E (p&&px)) ei.size x' xs:=by
    obtain ⟨q1,news,q2,q3,q4,q5,q6⟩:=s1;refine ⟨q1,news,q2,q3,VRr.mono ⟨?_,hf.ext.zone,hf.ext.heap⟩ _ _ _ q4,q5,q6⟩;cases px with
    |true=>exact zUT _
    |false=>simp only[vJ];exact Env.le.refl _
   obtain ⟨v',w',E',r1,r2,r3,r4⟩:=append_empty hT hf.rel hE (ty:=ty) hd s2 hei (by omega) s1' hb hm i.za;exact ⟨v',w',r1,E',r2,hf.trans r3,r4⟩
  ·have hR:=zAJ h hF hi hz;have hw:=hR.wd_eq;obtain ⟨hlen,news,a1,a2,a3,a4,a5⟩:=s1;simp only[zBf,wH,vH];by_cases hroom:rs.length+xs.length≤i.n
   ·obtain ⟨w',e1,e2⟩:=zUj (P:=P) h hE hF hi hz a1 a2 a3 a4 hroom;refine ⟨_,w',run_append_room' t xt ty e' ix hd s2 hx ⟨i.b,i.o,none⟩ rs.length i.n news x' xs.length hlen (by rw[hx1];exact a5 w rfl) hroom (by rw[addr_add,hx1];exact e1),E.set nx i,zHR (zUO _ _ _) hz _,e2,FreshIn.set⟩
   ·obtain ⟨cs,fz,b1,b2,b3,b4⟩:=hR.cells;have hso:=zE2 P (cap:=i.n) b1 (by omega) hR.len b4;obtain ⟨_,olds,o1,o2,o3,o4,o5⟩:=hso;have hr:=run_append_grow' t xt ty e' ix z hd s2 hx hx0 (some ⟨i.b,i.o,none⟩) rs.length i.n olds news x' xs.length hlen (by rw[hx1];exact o5 w.drew rfl) (by rw[hx1];exact a5 w.drew rfl) (by omega) (by omega)
     (zBU (by omega) (by rw[hx2];exact hb))
    have hge:=grownCap_ge w (rs.length+xs.length) i.n e';have hcm:=grownCap_le_maxLen w (rs.length+xs.length) i.n e' (by unfold maxLen;omega);refine ⟨_,_,hr,E.set nx ⟨w.heap.size,0,ei.size,grownCap w (rs.length+xs.length) i.n e',false,none⟩,zHR (zUO _ _ _) rfl _,?_,FreshIn.set⟩;have hf:=zUc h n;have hrest:(Builtin.zeroCells z.cells (grownCap w (rs.length+xs.length) i.n e'-(rs.length+xs.length))).size=(grownCap w (rs.length+xs.length) i.n e'-(rs++xs).length)*ei.size:=by
     rw[size_zeroCells,←vA,zAD,ht.sz,zU]
    have e1:Ext (EE E p) w (Zn E F w) (EE E (p&&px)) w (Zn E (F.set n .dead) w):=by
     refine ⟨?_,hf.ext.zone,hf.ext.heap⟩;cases p with
     |true=>exact zUT _
     |false=>exact Env.le.refl _
    have e2:Ext (EE E px) w (Zn E F w) (EE E (p&&px)) w (Zn E (F.set n .dead) w):=by
     refine ⟨?_,hf.ext.zone,hf.ext.heap⟩;cases px with
     |true=>exact zUT _
     |false=>simp only[vJ];exact Env.le.refl _
    have hj:VRr w (Zn E (F.set n .dead) w) (EE E (p&&px)) (rs++xs) 0 (olds++news).toArray:=
     zU5 hR.len a4 o1 (fun j hj=>by rw[zP,wR,wO hj]) (fun j hj=>by rw[zP,wR,wZ (by omega)];congr 1;omega) (VRr.mono e1 _ _ _ o3) (VRr.mono e2 _ _ _ a3)
    have hxr:∀row∈rs++xs,row.length=ei.size:=by
     intro x hx;rcases List.mem_append.1 hx with hx|hx;·exact hR.len x hx
     ·exact a4 x hx
    have hS:=zUX (t:=e') hf.rel hE (by omega) hxr (by simp[o1,a1,wF]) hj (by simpa using hge) hcm hrest (0,0) (by simp);have hS:=(hf.trans hS).drew;have q:(olds++news).toArray=olds.toArray++news.toArray:=by simp
    rw[q]at hS;exact hS
 ·cases hs
end
end Go.Tx
end
section
namespace Go.Sx
def zEa:List (Value×Value)→Int→Option Value
 | [],_=>none
 |(.int _ m,v)::l,n=>if m=n then some v else zEa l n
 |_::l,n=>zEa l n
def zFz:List (Value×Value)→Int→Value→List (Value×Value)
 | [],n,v=>[(.int .i64 n,v)]
 |(.int k m,u)::l,n,v=>if m=n then (.int .i64 n,v)::l else (.int k m,u)::zFz l n v
 |e::l,n,v=>e::zFz l n v
def intKeys(es:List (Value×Value)):Prop:=∀e∈es,∃m,e.1= .int .i64 m
noncomputable def zB5(T:Tys)(nx:Nat)(t:TypeId):Option Res:=
 match T.get t with
 |some {k:=.map _ _,..}=>some ⟨True,.map (some nx),[(nx,.map true [])],[]⟩
 |_=>none
noncomputable def zCL(T:Tys)(F:SF)(t:TypeId)(x i:Value)(ok:Bool):Option Res:=
 match T.get t,x,i with
 |some {k:=.map kt et,..},.map (some r),.int .i64 n=>
  match T.get kt,T.get et,F r with
  |some {k:=.int .i64,..},some ei,some (.map _ es)=>some ⟨intKeys es,if ok then .tuple #[(zEa es n).getD ei.zero,.bool (zEa es n).isSome] else (zEa es n).getD ei.zero,[],[r]⟩
  |_,_,_=>none
 |_,_,_=>none
noncomputable def zAz(T:Tys)(F:SF)(t:TypeId)(x i v:Value):Option Res:=
 match T.get t,x,i with
 |some {k:=.map kt _,..},.map (some r),.int .i64 n=>
  match T.get kt,F r with
  |some {k:=.int .i64,..},some (.map true es)=>some ⟨intKeys es,undef,[(r,.map true (zFz es n v))],[r]⟩
  |_,_=>none
 |_,_,_=>none
theorem zUg{E:Env}{F:SF}{w:World}(h:HRel E F w){n:Nat}{es es':List (Value×Value)}{i:BI}(hF:F n=some (.map true es))(hi:E n=some i)(hnil:i.nil=false)
  {ents:Array MapEntry}{clk:Nat}(hm:MRel E ents.toList es')(hb:i.b<w.heap.size):
  StepR E F w E (F.set n (.map true es')) {w with heap:=w.heap.setIfInBounds i.b (.map ents clk)}:=by
 have hother:∀k,k≠i.b→(w.heap.setIfInBounds i.b (.map ents clk))[k]?=w.heap[k]?:=fun k hk=>by simp[Ne.symm hk]
 refine ⟨Env.le.refl _,⟨?_,?_⟩,rfl,rfl,rfl,by simp,?_,?_⟩
 ·intro m b hmb;unfold SF.set at hmb;split at hmb
  ·rename_i hmn;subst hmn;injection hmb with hmb;subst hmb;exact ⟨i,hi,hnil,ents,clk,by simp[hb],hm⟩
  ·rename_i hmn;by_cases hl:b.live=true;rotate_left
   ·cases b<;>first|trivial|simp[SBlk.live]at hl
   refine (h.blk m b hmb).mono (Env.le.refl _) fun j hj hjn=>hother _ ?_
   exact fun e=>h.sep n m _ b i j hF hmb (fun e=>hmn e.symm) rfl hl hi hj hnil hjn e.symm
 ·intro m k b d a q hm' hk hmk hb' hd ha hq han hqn;unfold SF.set at hm' hk;by_cases hmn:m=n
  ·subst hmn;rw[if_neg (fun e=>hmk e.symm)]at hk;exact h.sep m k _ d a q hF hk hmk rfl hd ha hq han hqn
  ·rw[if_neg hmn]at hm';by_cases hkn:k=n
   ·subst hkn;exact h.sep m k b _ a q hm' hF hmk hb' rfl ha hq han hqn
   ·rw[if_neg hkn]at hk;exact h.sep m k b d a q hm' hk hmk hb' hd ha hq han hqn
 ·intro k hk hno;exact hother k (fun e=>hno n _ i hF rfl hi hnil e.symm)
 ·intro m b q hm' hb' hq hqn;unfold SF.set at hm';by_cases hmn:m=n
  ·subst hmn;exact .inr ⟨m,_,q,hF,rfl,hq,hqn,rfl⟩
  ·rw[if_neg hmn]at hm';exact .inr ⟨m,b,q,hm',hb',hq,hqn,rfl⟩
def Found(E:Env)(n:Int)(l:List MapEntry)(es:List (Value×Value))(i:Nat):Option (Nat×Value)→Prop
 |none=>zEa es n=none∧(∀v,zFz es n v=es++[(.int .i64 n,v)])
 | some ju=>i≤ju.1∧∃(v:Value) (e:MapEntry),zEa es n=some v∧dv E v=some ju.2∧l[ju.1-i]?=some e∧e.key= .int .i64 n∧
   (∀(x y:Value),dv E x=some y→MRel E (l.modify (ju.1-i) (fun e=>{e with key:=.int .i64 n,val:=y})) (zFz es n x))
theorem zJl{E:Env}{n:Int}:∀{l:List MapEntry} {es:List (Value×Value)} (i:Nat),MRel E l es→intKeys es→
  ∃a:Option (Nat×Value),Instr.findNow (.int .i64) (.int .i64 n) l i=some a∧Found E n l es i a
 | [],[],i,_,_=>⟨none,rfl,rfl,fun _=>rfl⟩
 | e::l,kv::es,i,h,hk=>by
  obtain ⟨m,hm⟩:=hk kv (by simp);obtain ⟨k,u⟩:=kv;simp only at hm;subst hm;obtain ⟨h1,h2,h3⟩:=h;simp only[dv,zZ]at h1;have hkk:intKeys es:=fun x hx=>hk x (by simp[hx])
  by_cases hmn:m=n
  ·subst hmn;refine ⟨some (i,e.val),by simp[Instr.findNow,Instr.sameNow,←h1],zH _,u,e,by simp[zEa],h2,by simp,h1.symm,?_⟩;intro v v' hv;simp only[Nat.sub_self,List.modify_zero_cons,zFz,if_true];exact ⟨rfl,hv,h3⟩
  ·obtain ⟨a,q1,q2⟩:=zJl (n:=n) (i+1) h3 hkk;refine ⟨a,by simp[Instr.findNow,Instr.sameNow,←h1,show (n==m)=false by simp[Ne.symm hmn],q1],?_⟩;cases a with
   |none=>exact ⟨by simp[zEa,hmn,q2.1],fun v=>by simp[zFz,hmn,q2.2 v]⟩
   |some ju=>
    obtain ⟨j,x⟩:=ju;obtain ⟨a1,v,e',a2,a3,a4,a5,a6⟩:=q2;have hj:j-i=(j-(i+1))+1:=by omega
    refine ⟨by omega,v,e',by simp[zEa,hmn,a2],a3,by rw[hj];simpa using a4,a5,?_⟩;intro v v' hv;rw[hj];simp only[List.modify_succ_cons,zFz,if_neg hmn];exact ⟨by simp[dv,h1],h2,a6 v v' hv⟩
 | [],_::_,_,h,_=>h.elim
 |_::_,[],_,h,_=>h.elim
section
variable {P : Program} {T : Tys} {E : Env} {F : SF} {nx : Nat} {w : World}
theorem zE4(h:HRel E F w)(hE:E nx=none){t:TypeId}{r:Res}(hs:zB5 T nx t=some r):∃v' w',(Instr.makeMap t none).run P w= .ok v' w'∧Gives E F nx w r v' w':=by
 unfold zB5 at hs;split at hs;rotate_left;·cases hs
 injection hs with hs;subst hs;refine ⟨.map (some w.heap.size),w.alloc (.map #[] 0),by simp[Instr.makeMap,Result.andThen],E.set nx ⟨w.heap.size,0,1,0,false⟩,?_,zUY h hE (.map #[] 0) _ _ rfl ?_,FreshIn.set (zH _) (by omega)⟩;·simp[dv,dM,zUO]
 ·exact ⟨_,zUO _ _ _,rfl,#[],0,(MapKept.heap_alloc w _).1,trivial⟩
theorem zLP{t:TypeId}{i:TI}(h:TOk P t i):plain i.zero=true:=by
 have h1:=h.pl;have h2:=h.one;cases hz:i.zero with
 |agg cs=>
  rw[hz]at h1 h2;obtain ⟨cs⟩:=cs;simp only[plain,zGY,zC];exact ⟨by simpa[cellsOf] using h1,by simpa[cellsOf] using h2⟩
 |_=>rw[hz]at h1;simpa[cellsOf,zHb] using h1
theorem zPO{r:Nat}{v':Value}{i:BI}(hi:E r=some i)(hn:i.nil=false)(h:dv E (.map (some r))=some v'):v'= .map (some i.b):=by
 simp only[dv,dM,hi,hn]at h;simpa using h.symm
theorem zF0(hT:T.Ok P)(h:HRel E F w){t:TypeId}{x k x' k':Value}{ok:Bool}{r:Res}(hs:zCL T F t x k ok=some r)(hvc:r.vc)(hx:dv E x=some x')(hk:dv E k=some k'):
  ∃v',(Instr.lookup t x' k' ok).run P w= .ok v' w∧Gives E F nx w r v' w:=by
 unfold zCL at hs;split at hs;rotate_left;·cases hs
 rename_i kt et _ _ _ _ rr n hti;split at hs;rotate_left;·cases hs
 rename_i _ _ _ _ ei own es hki hei hF;injection hs with hs;subst hs;simp only at hvc;simp only[dv,zZ]at hk;subst hk;obtain ⟨i,hi,hn,ents,clk,hb,hm⟩:=h.blk _ _ hF;have hx':=zPO hi hn hx;subst hx';obtain ⟨d,hd,hkd⟩:=(hT _ _ hti).desc;obtain rfl:=zDm hkd;obtain ⟨d2,hd2,hkd2⟩:=(hT _ _ hki).desc;have hd2':d2= .int .i64:=by cases d2<;>simp[tk]at hkd2;rw[hkd2]
 subst hd2';obtain ⟨a,q1,q2⟩:=zJl (n:=n) 0 hm hvc;have hz:(zeroValue et).run P w= .ok ei.zero w:=(hT _ _ hei).run_zeroValue w;have hik:MapKept.IsKey (.int .i64) (.int .i64 n):=by simp[MapKept.IsKey]
 cases a with
 |none=>
  refine ⟨if ok then .tuple #[ei.zero,.bool false] else ei.zero,?_,Gives.still h rfl ?_⟩;·simp[Instr.lookup,run_underlying hd,MapKept.run_getObj_map hb,MapKept.run_checkKey hd2 hik,MapKept.run_findKey hd2 q1,hz,Result.andThen]
  ·cases ok<;>simp[q2.1,dv,dva,dvl,zD8 E _ (zLP (hT _ _ hei))]
 |some ju=>
  obtain ⟨_,v,e,a2,a3,_⟩:=q2;refine ⟨if ok then .tuple #[ju.2,.bool true] else ju.2,?_,Gives.still h rfl ?_⟩;·simp[Instr.lookup,run_underlying hd,MapKept.run_getObj_map hb,MapKept.run_checkKey hd2 hik,MapKept.run_findKey hd2 q1,Result.andThen]
  ·cases ok<;>simp[a2,dv,dva,dvl,a3]
theorem MRel.push{l:List MapEntry}{es:List (Value×Value)}{e:MapEntry}{k v:Value}:MRel E l es→dv E k=some e.key→dv E v=some e.val→MRel E (l++[e]) (es++[(k,v)]):=by
 induction l generalizing es with
 |nil=>intro h h1 h2;cases es with
  |nil=>exact ⟨h1,h2,trivial⟩
  |cons _ _=>exact h.elim
 |cons a l ih=>intro h h1 h2;cases es with
  |nil=>exact h.elim
  |cons b es=>exact ⟨h.1,h.2.1,ih h.2.2 h1 h2⟩
theorem zCY(hT:T.Ok P)(h:HRel E F w){t:TypeId}{x k v x' k' v':Value}{r:Res}(hs:zAz T F t x k v=some r)(hvc:r.vc)(hx:dv E x=some x')(hk:dv E k=some k')(hv:dv E v=some v'):
  ∃w',(Instr.mapUpdate t x' k' v').run P w= .ok () w'∧Gives E F nx w r undef w':=by
 unfold zAz at hs;split at hs;rotate_left;·cases hs
 rename_i kt et _ _ _ _ rr n hti;split at hs;rotate_left;·cases hs
 rename_i _ _ _ _ es hki hF;injection hs with hs;subst hs;simp only at hvc;simp only[dv,zZ]at hk;subst hk;obtain ⟨i,hi,hn,ents,clk,hb,hm⟩:=h.blk _ _ hF;have hx':=zPO hi hn hx;subst hx';obtain ⟨d,hd,hkd⟩:=(hT _ _ hti).desc;obtain rfl:=zDm hkd;obtain ⟨d2,hd2,hkd2⟩:=(hT _ _ hki).desc;have hd2':d2= .int .i64:=by cases d2<;>simp[tk]at hkd2;rw[hkd2]
 subst hd2';obtain ⟨a,q1,q2⟩:=zJl (n:=n) 0 hm hvc;have hik:MapKept.IsKey (.int .i64) (.int .i64 n):=by simp[MapKept.IsKey]
 have hlt:i.b<w.heap.size:=by
  rcases wT i.b w.heap.size with h|h;·exact h
  ·rw[qJ h]at hb;cases hb
 cases a with
 |none=>
  refine ⟨_,by simp[Instr.mapUpdate,run_underlying hd,MapKept.run_getObj_map hb,MapKept.run_checkKey hd2 hik,MapKept.run_findKey hd2 q1,MapKept.run_setObj_map _ hb,Result.andThen];rfl,E,zD8 E undef rfl,zUg h hF hi hn ?_ hlt,FreshIn.refl _ _⟩;rw[q2.2 v];simp only[Array.toList_push];exact hm.push (by simp[dv]) hv
 |some ju=>
  obtain ⟨j,u⟩:=ju;obtain ⟨_,v0,e,a2,a3,a4,a5,a6⟩:=q2;simp only[vH]at a4 a6;have hj:ents[j]?=some e:=by simpa using a4
  refine ⟨_,by simp[Instr.mapUpdate,run_underlying hd,MapKept.run_getObj_map hb,MapKept.run_checkKey hd2 hik,MapKept.run_findKey hd2 q1,hj,a5,MapKept.run_keyThatStays hik,MapKept.run_setObj_map _ hb,Result.andThen];rfl,E,zD8 E undef rfl,zUg h hF hi hn ?_ hlt,FreshIn.refl _ _⟩;rw[Array.toList_modify];exact a6 v v' hv
end
end Go.Sx
end
