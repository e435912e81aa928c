/- GreetChecks: for every input the law returns true; each argument reads behind the call asx it read before. -/
import Derived.Test.YtifhjhbfhdcahaaGreatP20
import Derived.Test.YtifhjhbfhdcahaaGreatP31
set_option linter.all false
section
namespace Go.Proofs.YtifhjhbfhdcahaaGreat
open Go.ChangeShapes Go.WideShapes Go.ChangeAt Go.RowKit Go.Tx
set_option maxRecDepth 100000
theorem fn9:Tryz.prog.funcs[9]?=some Tryz.f9:=by kernel_rfl
theorem zFO(os:Os)(started:os.Started)(H:Type)(enc:TypeId×Value→H):
  ReturnsInHanded {} Tryz.checked os 9 .any (Rows.greetChecksSpec.pre6 enc Tryz.prog Tryz.f9 Rows.greetChecksRow.domain false) (Rows.greetChecksSpec.post enc Tryz.prog Tryz.f9 false true false false):=by
 refine returnsInHanded_of_change (C:=Tryz.checked) zSA started (by kernel_rfl) Tryz.func9
  (ChangeSpec.witness6 (enc:=enc) (C:=Tryz.checked) false ⟨#[],#[.int .i64 0,.int .i64 0,.string ⟨#[]⟩,.agg #[.int .i64 0,.int .i64 0,.int .i64 0,.int .i64 0,.int .i64 0,.string ⟨#[]⟩],.agg #[.int .i64 0,.int .i64 0,.int .i64 0,.int .i64 0,.int .i64 0,.string ⟨#[]⟩],.int .i64 0,.int .u16 0,.slice none 0 0,.agg #[.int .u8 0,.int .i64 0,.string ⟨#[]⟩],.agg #[.int .u8 0,.int .i64 0,.string ⟨#[]⟩]],[]⟩ 9 (by kernel_rfl) (by kernel_rfl) (by kernel_rfl) (by kernel_rfl)) ?_
 intro W base args ds gs before hval0 hW hcnd _;have hval:∀(j:Nat) t v,Tryz.f9.params[j]?=some t→args[j]?=some v→Value.okWide Tryz.prog W .any base t v:=hval0;have hW':=hW;obtain ⟨p,q,hA0,hV,rfl,hfz,hnd⟩:=hW;have hA:DataW.TrodAll enc Tryz.prog W 0 (fun _=>true) true Tryz.f9.params.toList args.toList ds p:=hA0;rw[Tryz.params9]at hA hval;obtain ⟨v0,v1,v2,v3,v4,v5,v6,v7,v8,v9,d0,d1,d2,d3,d4,d5,d6,d7,d8,d9,p0,p1,p2,p3,p4,p5,p6,p7,p8,p9,rfl,rfl,rfl,h0,h1,h2,h3,h4,h5,h6,h7,h8,h9⟩:=zJU hA;obtain ⟨rfl,rfl⟩:=trodVars_none hV;clear hA0 hval0;simp only[zK]at hW';obtain ⟨w0,rfl⟩:=okWide_int zKO (hval 0 3 v0 rfl rfl);obtain ⟨w1,rfl⟩:=okWide_int zKO (hval 1 3 v1 rfl rfl);obtain ⟨w2,rfl⟩:=okWide_string zQv (hval 2 9 v2 rfl rfl);obtain ⟨fs3,u3⟩:=zLC;obtain ⟨w3,rfl,_⟩:=okWide_struct u3 (hval 3 26 v3 rfl rfl);obtain ⟨fs4,u4⟩:=zLC;obtain ⟨w4,rfl,_⟩:=okWide_struct u4 (hval 4 26 v4 rfl rfl);obtain ⟨w5,rfl⟩:=okWide_int zKO (hval 5 3 v5 rfl rfl);obtain ⟨w6,rfl⟩:=okWide_int zQm (hval 6 22 v6 rfl rfl);obtain ⟨z7,l7,c7,rfl⟩:=okWide_slice zSC (hval 7 23 v7 rfl rfl);obtain ⟨fs8,u8⟩:=zLD;obtain ⟨w8,rfl,_⟩:=okWide_struct u8 (hval 8 46 v8 rfl rfl);obtain ⟨fs9,u9⟩:=zLD;obtain ⟨w9,rfl,_⟩:=okWide_struct u9 (hval 9 46 v9 rfl rfl)
 obtain ⟨x0,s0,r0,o0⟩:=zCF zFB (n:=7) (by kernel_rfl) h0;obtain ⟨x1,s1,r1,o1⟩:=zCF zFB (n:=7) (by kernel_rfl) h1;obtain ⟨x2,s2,r2,o2⟩:=zCF zFB (n:=7) (by kernel_rfl) h2;obtain ⟨x3,s3,r3,o3⟩:=zCF zFB (n:=7) (by kernel_rfl) h3;obtain ⟨x4,s4,r4,o4⟩:=zCF zFB (n:=7) (by kernel_rfl) h4;obtain ⟨x5,s5,r5,o5⟩:=zCF zFB (n:=7) (by kernel_rfl) h5;obtain ⟨x6,s6,r6,o6⟩:=zCF zFB (n:=7) (by kernel_rfl) h6;obtain ⟨x7,s7,r7,o7⟩:=zCF zFB (n:=7) (by kernel_rfl) h7;obtain ⟨x8,s8,r8,o8⟩:=zCF zFB (n:=7) (by kernel_rfl) h8;obtain ⟨x9,s9,r9,o9⟩:=zCF zFB (n:=7) (by kernel_rfl) h9;obtain ⟨m0,rfl,y0⟩:=Shp.int g3 s0;have e0:m0=w0:=by
  simp only[VRl,VR,Value.cells]at r0;obtain ⟨v,t,h,hv,_⟩:=r0;subst hv;simp at h;exact h.1.symm
 obtain ⟨b0,hb0⟩:∃b,b=w0:=⟨_,rfl⟩;subst e0;subst hb0;obtain ⟨m1,rfl,y1⟩:=Shp.int g3 s1;have e1:m1=w1:=by
  simp only[VRl,VR,Value.cells]at r1;obtain ⟨v,t,h,hv,_⟩:=r1;subst hv;simp at h;exact h.1.symm
 obtain ⟨b1,hb1⟩:∃b,b=w1:=⟨_,rfl⟩;subst e1;subst hb1;obtain ⟨b2,rfl,q2⟩:=Shp.str g9 s2;obtain ⟨x3,rfl,m3⟩:=zLE s3;obtain ⟨x4,rfl,m4⟩:=zLE s4;obtain ⟨m5,rfl,y5⟩:=Shp.int g3 s5;have e5:m5=w5:=by
  simp only[VRl,VR,Value.cells]at r5;obtain ⟨v,t,h,hv,_⟩:=r5;subst hv;simp at h;exact h.1.symm
 obtain ⟨b5,hb5⟩:∃b,b=w5:=⟨_,rfl⟩;subst e5;subst hb5;obtain ⟨m6,rfl,y6⟩:=Shp.int g22 s6;have e6:m6=w6:=by
  simp only[VRl,VR,Value.cells]at r6;obtain ⟨v,t,h,hv,_⟩:=r6;subst hv;simp at h;exact h.1.symm
 subst e6;obtain ⟨b6,rfl,q6⟩:=zUM y6;obtain ⟨x7,rfl,m7⟩:=zSD s7;obtain ⟨a8,b8,c8,rfl,q8⟩:=zLF s8;obtain ⟨a9,b9,c9,rfl,q9⟩:=zLF s9;have hargs:VRl W (Zw W) Env.no [.int .i64 b0,.int .i64 b1,.str b2,.agg x3.row,.agg x4.row,.int .i64 b5,.int .u16 b6,.fs 3 (x7.map Mv.row),.agg [.int .u8 a8,.int .i64 b8,.str c8],.agg [.int .u8 a9,.int .i64 b9,.str c9]] [.int .i64 b0,.int .i64 b1,.string w2,.agg w3,.agg w4,.int .i64 b5,.int .u16 b6,.slice z7 l7 c7,.agg w8,.agg w9]:=by
  have e2:=zLB r2;have e3:=zKp r3 o3;have e4:=zKp r4 o4;have e7:=zLB r7;have e8:=zKp r8 o8;have e9:=zKp r9 o9;simp only[VRl];exact ⟨_,_,rfl,by simp only[VR],_,_,rfl,by simp only[VR],_,_,rfl,e2,_,_,rfl,e3,_,_,rfl,e4,_,_,rfl,by simp only[VR],_,_,rfl,by simp only[VR],_,_,rfl,e7,_,_,rfl,e8,_,_,rfl,e9,rfl⟩
 have hw:=zLh (zL4 b0 b1 b2 x3 x4 b5 b6 q6 x7 m7.1 a8 a9 q8 q9 b8 b9 c8 c9) hargs fn9 (by rfl) (by kernel_rfl);refine (hw).mono fun e W' ⟨he,hg⟩=>?_
 subst he;exact ⟨_,rfl,zLi hW' rfl (by kernel_rfl) zNd rfl rfl rfl zNb (by rw[Tryz.params9];simp only[wP,uC,or_false];rintro t (rfl|rfl|rfl|rfl|rfl|rfl|rfl|rfl|rfl|rfl)<;>exact ⟨by kernel_rfl,of_decide_eq_true (by kernel_rfl)⟩) hg⟩
theorem greetChecks:Rows.GreetChecksSaid:=
 OpenClaim.holds_of_wide 9 Tryz.f9 rfl rfl rfl rfl rfl rfl rfl ⟨rfl,rfl,rfl,rfl,rfl⟩ rfl rfl rfl rfl rfl (by kernel_rfl) Tryz.func9 (by kernel_rfl)
  (of_decide_eq_true (by kernel_rfl)) (by unfold Func.isWrapper;rw[if_neg (of_decide_eq_false (by kernel_rfl))];exact ⟨rfl,rfl⟩)
  (fun os started H enc _=>zFO os started H enc)
#print axioms greetChecks
end Go.Proofs.YtifhjhbfhdcahaaGreat
end
