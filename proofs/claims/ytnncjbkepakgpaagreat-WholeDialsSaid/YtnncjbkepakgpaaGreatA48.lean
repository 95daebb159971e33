/- A MANAGER LETS ONE IN. A MANAGER OF NOTHING. MEMORY: LOAD. HOW MANY PEERS THERE ARE. -/
import Derived.Test.YtnncjbkepakgpaaGreatA47
import Derived.Test.YtnncjbkepakgpaaGreatA46
namespace Go.Proofs.YtnncjbkepakgpaaGreat
open Go.RowKit Qv
set_option linter.unusedVariables false
set_option linter.unusedSimpArgs false
set_option maxRecDepth 100000
set_option maxHeartbeats 1500000
section
attribute[local go_sem↓]bI bu bZ bO aZ aW dN dw da cJ bv bj dt db dM dv
attribute[local go_sem]bT cd cz cK eB dP dx dc bN bz dT dy eA dO dC bq eV eW gW gV fz sD pU pW od sy pR sx pQ sC pT pX oe sF pV lE iD lF jL nf se sf
theorem rG(w:World):w.drew.heap.size=w.heap.size:=id rfl
attribute[local go_sem high]rG
attribute[local simp high]rG
structure Aj(C:Array Value):Prop extends Ai C where
 h18:∃x,C[18]? =some x
 h20:∃x,C[20]? =some x
 h21:∃x,C[21]? =some x
 h22:C[22]? =some (.int .i32 0)
def Fk(M c:Nat)(C:Array Value)(w:World)(e:Ending)(w':World):Prop:=∃sl,e= .returned (.agg (#[Z,F,U,U,Z,Z,Z,V]))∧ax M w w'∧aK w' M 134 60=true∧aH w' M=(((((((C.setIfInBounds 22 (.int .i32 1)).setIfInBounds 32 (.int .i32 1)).setIfInBounds 16 (I 1)).setIfInBounds 35 sl).setIfInBounds 34 (I 1)).setIfInBounds 32 (.int .i32 0)).setIfInBounds 22 (.int .i32 0))∧aV w' w.heap.size 75 10 sl [#[F,U,J (aM c),I 80,Y,I (Pm.tOf c),Z,I (Pm.tOf c),Z,Z]]
theorem Ft(M c:Nat)(hp:prt 4 c=1)(C:Array Value)(hF:Aj C)(w:World)(hr:aK w M 134 60=true)(hC:aH w M=C):Calls Tryz.prog 101 #[.agg (jI 2 4 c),.iface 140 (.agg #[H M 0])] w (Fk M c C w):=by
 have ed:jI 2 4 c=(#[I 2,I 4,I 4,I 64,I 64,J 1,I 1,I 1,I 1,I 64,I 100,I 100,I 1000,I 2,I 64,I 4,I 1,F,U,J (aM c),I 80,F,U,U,Z,I (Pm.tOf c),Z,F]:AV):=rfl;have HED:=Lib.hid ed;have hM:=bd hr;have hz:=lP hr hC;obtain⟨x18,h18⟩:=hF.h18;obtain⟨x20,h20⟩:=hF.h20;obtain⟨x21,h21⟩:=hF.h21;have ht0:0≤(Pm.tOf c:Int):=aa;have ht1:(Pm.tOf c:Int)≤1099511627776:=BV;rw[ed];clear ed;have hbx:∀W,ax M ((w.alloc (.cells (#[I 2,I 4,I 4,I 64,I 64,J 1,I 1,I 1,I 1,I 64,I 100,I 100,I 1000,I 2,I 64,I 4,I 1,F,U,J (aM c),I 80,F,U,U,Z,I (Pm.tOf c),Z,F]) 203)).alloc (.cells (#[Z,F,U,U,Z,Z,Z,V]) 64)) W→aK W w.heap.size 203 28=true∧aH W w.heap.size=(#[I 2,I 4,I 4,I 64,I 64,J 1,I 1,I 1,I 1,I 64,I 100,I 100,I 1000,I 2,I 64,I 4,I 1,F,U,J (aM c),I 80,F,U,U,Z,I (Pm.tOf c),Z,F]:AV)∧aK W (w.heap.size+1) 64 8=true∧aH W (w.heap.size+1)=(#[Z,F,U,U,Z,Z,Z,V]:AV)∧bc W w.heap.size=true∧bc W (w.heap.size+1)=true∧w.heap.size+1<W.heap.size:=fun W hW=>by obtain⟨x1,x2,x3,x4,x5,x6,x7,x8,x9,x10⟩:=g7 hW;have s0:w.heap.size<((w.alloc (.cells (#[I 2,I 4,I 4,I 64,I 64,J 1,I 1,I 1,I 1,I 64,I 100,I 100,I 1000,I 2,I 64,I 4,I 1,F,U,J (aM c),I 80,F,U,U,Z,I (Pm.tOf c),Z,F]) 203)).alloc (.cells (#[Z,F,U,U,Z,Z,Z,V]) 64)).heap.size:=aF;have s1:w.heap.size+1<((w.alloc (.cells (#[I 2,I 4,I 4,I 64,I 64,J 1,I 1,I 1,I 1,I 64,I 100,I 100,I 1000,I 2,I 64,I 4,I 1,F,U,J (aM c),I 80,F,U,U,Z,I (Pm.tOf c),Z,F]) 203)).alloc (.cells (#[Z,F,U,U,Z,Z,Z,V]) 64)).heap.size:=ay;have hn0:¬(w.heap.size=M):=aa;have hn1:¬(w.heap.size+1=M):=aa;refine⟨by rw[x1 _ _ _ s0 hn0];simp[go_sem],by rw[x2 _ s0 hn0];simp[go_sem],by rw[x1 _ _ _ s1 hn1];simp[go_sem],by rw[x2 _ s1 hn1];simp[go_sem],by rw[x8 _ s0 hn0];simp[go_sem],by rw[x8 _ s1 hn1];simp[go_sem],x10 _ s1⟩
 have hU0:Below w.heap.size w ((w.alloc (.cells (#[I 2,I 4,I 4,I 64,I 64,J 1,I 1,I 1,I 1,I 64,I 100,I 100,I 1000,I 2,I 64,I 4,I 1,F,U,J (aM c),I 80,F,U,U,Z,I (Pm.tOf c),Z,F]) 203)).alloc (.cells (#[Z,F,U,U,Z,Z,Z,V]) 64)):=nO;obtain⟨hr0,hC0⟩:=cm hr hC hU0;generalize hW0:((w.alloc (.cells (#[I 2,I 4,I 4,I 64,I 64,J 1,I 1,I 1,I 1,I 64,I 100,I 100,I 1000,I 2,I 64,I 4,I 1,F,U,J (aM c),I 80,F,U,U,Z,I (Pm.tOf c),Z,F]) 203)).alloc (.cells (#[Z,F,U,U,Z,Z,Z,V]) 64))=W0 at hbx hU0 hr0 hC0;go_enter Tryz.func101,Tryz.ntmps101;obtain⟨b1,b2,b3,b4,b5,b6,b7⟩:=hbx _ (ax.refl _ _);go_wp2_with fail;refine(m8 c _ ht0 ht1 _).mono ?_;rintro e w1⟨rfl,hb⟩;obtain⟨hr1,hC1⟩:=cm hr0 hC0 hb;have U1:=Lib.hid (ax.of_below (T:=M) hb);clear hb;obtain⟨b1,b2,b3,b4,b5,b6,b7⟩:=hbx _ U1.out;go_wp2_with fail;refine(Kn M C x18 x20 x21 h18 h20 h21 hF.h22 _ hr1 hC1).mono ?_;rintro e w2⟨rfl,hu,hr2,hC2⟩;have U2:=Lib.hid (U1.out.trans hu);clear hu;obtain⟨b1,b2,b3,b4,b5,b6,b7⟩:=hbx _ U2.out;have g:Ai (C.setIfInBounds 22 (.int .i32 1)):=⟨by rw[br az];exact hF.h16,by rw[br az];exact hF.h24,by rw[br az];exact hF.h32,by rw[br az];exact hF.h34,by rw[br az];exact hF.h35⟩;go_wp2_with fail;refine(yv M _ g.h24 _ hr2 hC2).mono ?_;rintro e w3⟨rfl,hb⟩;obtain⟨hr3,hC3⟩:=cm hr2 hC2 hb;have U3:=Lib.hid (U2.out.trans (ax.of_below (T:=M) hb));clear hb;obtain⟨b1,b2,b3,b4,b5,b6,b7⟩:=hbx _ U3.out;go_wp2_with fail;refine(nG c _ _).mono ?_;rintro e w4⟨rfl,hb⟩;obtain⟨hr4,hC4⟩:=cm hr3 hC3 hb;have U4:=Lib.hid (U3.out.trans (ax.of_below (T:=M) hb));clear hb;obtain⟨b1,b2,b3,b4,b5,b6,b7⟩:=hbx _ U4.out;have hM4:=bd hr4;go_wp2_with fail;rw[←HED.out];refine(K9 M c hp _ g _ hr4 hC4).mono ?_;rintro e w5⟨sl,rfl,hu,hr5,hC5,ho⟩;have U5:=Lib.hid (U4.out.trans hu);have HO5:=Lib.hid ho;have hs4:w.heap.size+1<w4.heap.size:=b7;clear hu ho;obtain⟨b1,b2,b3,b4,b5,b6,b7⟩:=hbx _ U5.out;have m18:((((((C.setIfInBounds 22 (.int .i32 1)).setIfInBounds 32 (.int .i32 1)).setIfInBounds 16 (I 1)).setIfInBounds 35 sl).setIfInBounds 34 (I 1)).setIfInBounds 32 (.int .i32 0))[18]? =some x18:=by rw[br az,br az,br az,br az,br az,br az];exact h18
 have m20:((((((C.setIfInBounds 22 (.int .i32 1)).setIfInBounds 32 (.int .i32 1)).setIfInBounds 16 (I 1)).setIfInBounds 35 sl).setIfInBounds 34 (I 1)).setIfInBounds 32 (.int .i32 0))[20]? =some x20:=by rw[br az,br az,br az,br az,br az,br az];exact h20
 have m21:((((((C.setIfInBounds 22 (.int .i32 1)).setIfInBounds 32 (.int .i32 1)).setIfInBounds 16 (I 1)).setIfInBounds 35 sl).setIfInBounds 34 (I 1)).setIfInBounds 32 (.int .i32 0))[21]? =some x21:=by rw[br az,br az,br az,br az,br az,br az];exact h21
 have m22:((((((C.setIfInBounds 22 (.int .i32 1)).setIfInBounds 32 (.int .i32 1)).setIfInBounds 16 (I 1)).setIfInBounds 35 sl).setIfInBounds 34 (I 1)).setIfInBounds 32 (.int .i32 0))[22]? =some (.int .i32 1):=by rw[br az,br az,br az,br az,br az,wF aa]
 have hM5:=bd hr5;have bw5:Below w5.heap.size w5 (w5.alloc (.cells (#[Z,F,U,U,Z,Z,Z,V]) 64)):=nO;have hU5:ax M W0 (w5.alloc (.cells (#[Z,F,U,U,Z,Z,Z,V]) 64)):=U5.out.alloc _;obtain⟨b1,b2,b3,b4,b5,b6,b7⟩:=hbx _ hU5;obtain⟨hr6,hC6⟩:=cm hr5 hC5 bw5;have c1:aK (w5.alloc (.cells (#[Z,F,U,U,Z,Z,Z,V]) 64)) w5.heap.size 64 8=true:=bG;have c2:aH (w5.alloc (.cells (#[Z,F,U,U,Z,Z,Z,V]) 64)) w5.heap.size=(#[Z,F,U,U,Z,Z,Z,V]:AV):=bG;go_wp2_with fail;generalize hCQ:((((((C.setIfInBounds 22 (.int .i32 1)).setIfInBounds 32 (.int .i32 1)).setIfInBounds 16 (I 1)).setIfInBounds 35 sl).setIfInBounds 34 (I 1)).setIfInBounds 32 (.int .i32 0))=CQ at*;generalize w5.alloc (.cells (#[Z,F,U,U,Z,Z,Z,V]) 64)=W6 at*;refine(NH M CQ x18 x20 x21 m18 m20 m21 m22 _ hr6 hC6).mono ?_;rintro e w7⟨rfl,hu,hr7,hC7⟩;have U7:=Lib.hid (hU5.trans hu);have d0:=(g7 hu).1 _ 64 8 (bd c1) aa;have d1:aK w7 w5.heap.size 64 8=true:=d0.trans c1;have d2:aH w7 w5.heap.size=(#[Z,F,U,U,Z,Z,Z,V]:AV):=((g7 hu).2.1 _ (bd c1) aa).trans c2;have d3:=aI d1;have d4:=bd d1;have HO7:=Lib.hid ((HO5.out.below bw5).upto hu aa);clear hu d0;obtain⟨b1,b2,b3,b4,b5,b6,b7⟩:=hbx _ U7.out;have hs5:w.heap.size+1<w5.heap.size:=by have:=U5.out.size;omega
 have n5:¬(w5.heap.size=w.heap.size+1):=aa;subst hCQ;go_wp2;refine bodyPost_ret (v:=.agg (#[Z,F,U,U,Z,Z,Z,V])) (aN (t:=64) Tryz.results101 _ _ _ rfl ?_ ?_ fi ic) rfl ?_;·exact fd _ b3 rfl
 ·exact fa _ b6
 exact⟨sl,rfl,fD ((ax.of_below hU0).trans U7.out) aa _,(gf _ _ _ _ _ _ aa).trans hr7,(gO _ _ _ _ aa).trans hC7,(HO7.out.upto (T:=w.heap.size+1) (aP (ax.refl _ _) _) aa).weaken aa⟩
theorem Kz(M c:Nat)(hp:prt 4 c=1)(C:Array Value)(hF:Aj C)(hconf:C.extract 0 16=(#[I 2,I 4,I 4,I 64,I 64,J 1,I 1,I 1,I 1,I 64,I 100,I 100,I 1000,I 2,I 64,I 4]:AV))(w:World)(hr:aK w M 134 60=true)(hC:aH w M=C):Calls Tryz.prog 17 #[H M 0,.agg (#[I 1,F,U,J (aM c),I 80,F,U,U,Z,I (Pm.tOf c),Z,F])] w (Fk M c C w):=by
 have hM:=bd hr;have hz:=lP hr hC;go_enter Tryz.func17,Tryz.ntmps17;go_wp2;have bw:Below w.heap.size w ((w.alloc (.cells (#[I 1,F,U,J (aM c),I 80,F,U,U,Z,I (Pm.tOf c),Z,F]) 41)).alloc (.cells (#[Z,F,U,U,Z,Z,Z,V]) 64)):=nO;obtain⟨hrW,hCW⟩:=cm hr hC bw;obtain⟨WG,hWG⟩:∃W,(w.alloc (.cells (#[I 1,F,U,J (aM c),I 80,F,U,U,Z,I (Pm.tOf c),Z,F]) 41)).alloc (.cells (#[Z,F,U,U,Z,Z,Z,V]) 64)=W:=⟨_,rfl⟩;have bR0:aK WG (w.heap.size) 41 12=true:=gu;have bV0:aH WG (w.heap.size)=(#[I 1,F,U,J (aM c),I 80,F,U,U,Z,I (Pm.tOf c),Z,F]:AV):=gu;have bC0:=aI bR0;have bL0:=bd bR0;have bR1:aK WG (w.heap.size+1) 64 8=true:=gu;have bV1:aH WG (w.heap.size+1)=(#[Z,F,U,U,Z,Z,Z,V]:AV):=gu;have bC1:=aI bR1;have bL1:=bd bR1;have hn0:w.heap.size≠M:=aa;have hn1:w.heap.size+1≠M:=aa;have hcW:=aI hrW;have HTC:=Lib.hid (fun(W:World)=>(show Calls Tryz.prog 37 #[.agg (#[I 2,I 4,I 4,I 64,I 64,J 1,I 1,I 1,I 1,I 64,I 100,I 100,I 1000,I 2,I 64,I 4]),.agg (#[I 1,F,U,J (aM c),I 80,F,U,U,Z,I (Pm.tOf c),Z,F])] W fun e w'=>e= .returned (.func (.func 101) #[.agg (#[I 2,I 4,I 4,I 64,I 64,J 1,I 1,I 1,I 1,I 64,I 100,I 100,I 1000,I 2,I 64,I 4,I 1,F,U,J (aM c),I 80,F,U,U,Z,I (Pm.tOf c),Z,F])] #[])∧Below W.heap.size W w' from zE 2 4 c W));have hx0:0+16≤C.size:=aa;have hx1:16≤C.size:=aa;have hMW:=bd hrW;generalize(w.alloc (.cells (#[I 1,F,U,J (aM c),I 80,F,U,U,Z,I (Pm.tOf c),Z,F]) 41)).alloc (.cells (#[Z,F,U,U,Z,Z,Z,V]) 64)=W0 at*;subst hWG;have bwz:w.heap.size+1<W0.heap.size:=bL1;refine cN 10 af (ax M W0) [0,1,2,4,6,7,8] 4 af af (fun _ _ d _ _ h=>bo) (ax.refl _ _).drew ?_;simp only[PL];apply ae;·exact jt
 try simp only[PT]
 apply ae;·exact jt
 try simp only[PT]
 apply ae;·exact jt
 try simp only[PT]
 apply ae;·exact jt
 try simp only[PT]
 apply ae;·exact jt
 try simp only[PT]
 apply ae;·exact jt
 try simp only[PT]
 apply ae;·exact jt
 try simp only[PT]
 refine aC ?_;refine bg 3 af af ?_;simp only[aU];go_wp2_with fail;refine am (MR) ?_;refine bg 5 af af ?_;simp only[aU];go_wp2_with fail;refine(HTC.out _).mono ?_;rintro e w1⟨rfl,hb⟩;have hk1:=aw.mk (show Below W0.heap.size W0 w1 from((Below.refl W0.heap.size W0).drew).trans hb);obtain⟨hr1,hC1⟩:=cm hrW hCW hk1.out;have d0:=(dJ hk1.out).1 _ 64 8 bL1;have d1:aK w1 (w.heap.size+1) 64 8=true:=d0.trans bR1;have d2:aH w1 (w.heap.size+1)=(#[Z,F,U,U,Z,Z,Z,V]:AV):=((dJ hk1.out).2.1 _ bL1).trans bV1;have d3:=aI d1;clear hb d0;go_wp2;refine am (MR) ?_;refine bg 9 af af ?_;simp only[aU];go_wp2_with fail;refine(Ft M c hp C hF _ hr1 hC1).mono ?_;rintro e w2⟨sl,rfl,hu,hr2,hC2,ho⟩;have hU2:=Lib.hid (show ax M W0 w2 from(ax.of_below hk1.out).trans hu);have e0:=(g7 hu).1 _ 64 8 (bd d1) hn1;have e1:aK w2 (w.heap.size+1) 64 8=true:=e0.trans d1;have e2:aH w2 (w.heap.size+1)=(#[Z,F,U,U,Z,Z,Z,V]:AV):=((g7 hu).2.1 _ (bd d1) hn1).trans d2;have e3:=aI e1;have HO2:=Lib.hid ho;have hsw:W0.heap.size≤w1.heap.size:=hk1.out.size;clear hu ho e0;go_wp2;refine am (MR) ?_;refine dp 10 rfl af af ?_;simp only[aU];go_wp2_with fail;refine am trivial ?_;refine dX af ?_;go_wp2;refine bodyPost_ret (v:=.agg (#[Z,F,U,U,Z,Z,Z,V])) (aN (t:=64) Tryz.results17 _ _ _ rfl ?_ ?_ fi ic) rfl ?_;·exact fd _ e1 rfl
 ·exact fa _ e3
 exact⟨sl,rfl,fD ((ax.of_below bw).trans hU2.out) aa _,(gf _ _ _ _ _ _ aa).trans hr2,(gO _ _ _ _ aa).trans hC2,(HO2.out.upto (T:=w.heap.size+1) (aP (ax.refl _ _) _) aa).weaken aa⟩
end
section
attribute[local go_sem↓]dt db ew dR fe eN
attribute[local go_sem]dT dy fy eZ fH ff dC bq eV eW gW gV fz
theorem rI(w:World):w.drew.heap.size=w.heap.size:=id rfl
attribute[local go_sem high]rI
attribute[local simp high]rI
def jl:Array Value:=(List.toArray (Value.int .i64 2::Value.int .i64 4::Value.int .i64 4::Value.int .i64 64::Value.int .i64 64::Value.int .u64 1::Value.int .i64 1::Value.int .i64 1::Value.int .i64 1::Value.int .i64 64::Value.int .i64 100::Value.int .i64 100::Value.int .i64 1000::Value.int .i64 2::Value.int .i64 64::Value.int .i64 4::Value.int .i64 0::Value.int .i64 0::Value.int .i32 0::Value.int .u32 0::Value.int .u32 0::Value.int .u32 0::Value.int .i32 0::Value.int .i32 0::Value.slice none 0 0::Value.int .i32 0::Value.int .u32 0::Value.slice none 0 0::Value.int .i32 0::Value.int .u32 0::Value.int .i64 0::Value.slice none 0 0::Value.int .i32 0::Value.int .u32 0::Value.int .i64 0::Value.slice none 0 0::Value.int .i32 0::Value.int .u32 0::Value.int .i64 0::Value.slice none 0 0::Value.int .i32 0::Value.int .u32 0::Value.int .i64 0::Value.slice none 0 0::Value.int .i32 0::Value.int .u32 0::Value.int .i64 0::Value.slice none 0 0::Value.int .i32 0::Value.int .u32 0::Value.int .i64 0::Value.slice none 0 0::Value.int .i32 0::Value.int .u32 0::Value.int .i64 0::Value.slice none 0 0::Value.int .i32 0::Value.int .u32 0::Value.int .i64 0::Value.slice none 0 0::[]))
theorem iN:jl.size=60:=rfl
theorem Ez:jl.setIfInBounds 16 Z=jl:=by unfold jl;simp
theorem EA:jl.setIfInBounds 17 Z=jl:=by unfold jl;simp
theorem KG(k:Nat)(hk:k<4):er jl (28+k*4+2) #[Z,V]=jl:=by have:k=0∨k=1∨k=2∨k=3:=aa;rcases this with rfl|rfl|rfl|rfl<;>(unfold jl er;simp)
def QD(w:World)(e:Ending)(w':World):Prop:=∃M,e= .returned (.tuple #[H M 0,Z])∧aK w' M 134 60=true∧aH w' M=jl∧w.heap.size≤M∧Below w.heap.size w w'
theorem Hi(w:World):Calls Tryz.prog 16 #[.agg (#[I 2,I 4,I 4,I 64,I 64,J 1,I 1,I 1,I 1,I 64,I 100,I 100,I 1000,I 2,I 64,I 4]),.agg (#[V,V,V])] w (QD w):=by
 have HMR:=Lib.hid (fun(W:World)=>(show Calls Tryz.prog 19 #[.agg (#[I 2,I 4,I 4,I 64,I 64,J 1,I 1,I 1,I 1,I 64,I 100,I 100,I 1000,I 2,I 64,I 4]),.agg (#[V,V,V])] W fun e w'=>e= .returned Y∧Below W.heap.size W w' from KK W));have HMN:=Lib.hid (fun(W:World)=>(show Calls Tryz.prog 20 #[.agg (#[I 2,I 4,I 4,I 64,I 64,J 1,I 1,I 1,I 1,I 64,I 100,I 100,I 1000,I 2,I 64,I 4]),.agg (#[V,V,V])] W _ from P2 W));have h16:jl[16]? =some (.int .i64 0):=rfl;have h17:jl[17]? =some (.int .i64 0):=rfl;have hs16:=Ez;have hs17:=EA;go_enter Tryz.func16,Tryz.ntmps16;go_wp2_with fail;have bw:Below w.heap.size w ((w.alloc (.cells (#[I 2,I 4,I 4,I 64,I 64,J 1,I 1,I 1,I 1,I 64,I 100,I 100,I 1000,I 2,I 64,I 4]) 29)).alloc (.cells (#[V,V,V]) 57)):=nO;have bRa0:aK ((w.alloc (.cells (#[I 2,I 4,I 4,I 64,I 64,J 1,I 1,I 1,I 1,I 64,I 100,I 100,I 1000,I 2,I 64,I 4]) 29)).alloc (.cells (#[V,V,V]) 57)) (w.heap.size) 29 16=true:=bG;have bVa0:aH ((w.alloc (.cells (#[I 2,I 4,I 4,I 64,I 64,J 1,I 1,I 1,I 1,I 64,I 100,I 100,I 1000,I 2,I 64,I 4]) 29)).alloc (.cells (#[V,V,V]) 57)) (w.heap.size)=(#[I 2,I 4,I 4,I 64,I 64,J 1,I 1,I 1,I 1,I 64,I 100,I 100,I 1000,I 2,I 64,I 4]:AV):=bG;have bCa0:=aI bRa0;have bLa0:=bd bRa0;have bRa1:aK ((w.alloc (.cells (#[I 2,I 4,I 4,I 64,I 64,J 1,I 1,I 1,I 1,I 64,I 100,I 100,I 1000,I 2,I 64,I 4]) 29)).alloc (.cells (#[V,V,V]) 57)) (w.heap.size+1) 57 3=true:=bG;have bVa1:aH ((w.alloc (.cells (#[I 2,I 4,I 4,I 64,I 64,J 1,I 1,I 1,I 1,I 64,I 100,I 100,I 1000,I 2,I 64,I 4]) 29)).alloc (.cells (#[V,V,V]) 57)) (w.heap.size+1)=(#[V,V,V]:AV):=bG;have bCa1:=aI bRa1;have bLa1:=bd bRa1;refine(HMR.out _).mono ?_;rintro e w1⟨rfl,hb⟩;have xb:=dJ hb;have bRb0:aK w1 (w.heap.size) 29 16=true:=(xb.1 _ _ _ bLa0).trans bRa0;have bVb0:aH w1 (w.heap.size)=(#[I 2,I 4,I 4,I 64,I 64,J 1,I 1,I 1,I 1,I 64,I 100,I 100,I 1000,I 2,I 64,I 4]:AV):=(xb.2.1 _ bLa0).trans bVa0;have bCb0:=aI bRb0;have bLb0:=bd bRb0;have bRb1:aK w1 (w.heap.size+1) 57 3=true:=(xb.1 _ _ _ bLa1).trans bRa1;have bVb1:aH w1 (w.heap.size+1)=(#[V,V,V]:AV):=(xb.2.1 _ bLa1).trans bVa1;have bCb1:=aI bRb1;have bLb1:=bd bRb1;have bw1:Below w.heap.size w w1:=bw.trans (hb.mono bw.size);clear xb hb bw bRa0 bVa0 bCa0 bLa0 bRa1 bVa1 bCa1 bLa1;go_wp2_with fail;refine(HMN.out _).mono ?_;rintro e w2⟨vS,vL,LL,rfl,hS,hL,hLL,fS,hb⟩;obtain⟨aS,cS,eS,-⟩:=id hS;obtain⟨aL,cL,eL,-⟩:=id hL;rw[hLL]at eL;rw[List.length_replicate]at eS;subst eS eL;have xc:=dJ hb;have bRc0:aK w2 (w.heap.size) 29 16=true:=(xc.1 _ _ _ bLb0).trans bRb0;have bVc0:aH w2 (w.heap.size)=(#[I 2,I 4,I 4,I 64,I 64,J 1,I 1,I 1,I 1,I 64,I 100,I 100,I 1000,I 2,I 64,I 4]:AV):=(xc.2.1 _ bLb0).trans bVb0;have bCc0:=aI bRc0;have bLc0:=bd bRc0;have bRc1:aK w2 (w.heap.size+1) 57 3=true:=(xc.1 _ _ _ bLb1).trans bRb1;have bVc1:aH w2 (w.heap.size+1)=(#[V,V,V]:AV):=(xc.2.1 _ bLb1).trans bVb1;have bCc1:=aI bRc1;have bLc1:=bd bRc1;have bw2:Below w.heap.size w w2:=bw1.trans (hb.mono bw1.size);have hs2:w.heap.size+1<w2.heap.size:=bLc1;have HS2:=Lib.hid hS;have HQS:=Lib.hid (fun q(hq:(Value.slice aS 4 cS).ownBlock=some q)=>hS.lt hq);have hfold:True:=trivial;clear xc hb bw1 fS hL hLL hS HMR HMN bRb0 bVb0 bCb0 bLb0 bRb1 bVb1 bCb1 bLb1;go_wp2_with fail;have hmc:((w2.alloc (.cells (#[Z,Z,V,V,E aS 4 cS,E aL 6 cL]) 47)).alloc (.cells (List.toArray (Value.int .i64 2::Value.int .i64 4::Value.int .i64 4::Value.int .i64 64::Value.int .i64 64::Value.int .u64 1::Value.int .i64 1::Value.int .i64 1::Value.int .i64 1::Value.int .i64 64::Value.int .i64 100::Value.int .i64 100::Value.int .i64 1000::Value.int .i64 2::Value.int .i64 64::Value.int .i64 4::Value.int .i64 0::Value.int .i64 0::Value.int .i32 0::Value.int .u32 0::Value.int .u32 0::Value.int .u32 0::Value.int .i32 0::Value.int .i32 0::Value.slice none 0 0::Value.int .i32 0::Value.int .u32 0::Value.slice none 0 0::Value.int .i32 0::Value.int .u32 0::Value.int .i64 0::Value.slice none 0 0::Value.int .i32 0::Value.int .u32 0::Value.int .i64 0::Value.slice none 0 0::Value.int .i32 0::Value.int .u32 0::Value.int .i64 0::Value.slice none 0 0::Value.int .i32 0::Value.int .u32 0::Value.int .i64 0::Value.slice none 0 0::Value.int .i32 0::Value.int .u32 0::Value.int .i64 0::Value.slice none 0 0::Value.int .i32 0::Value.int .u32 0::Value.int .i64 0::Value.slice none 0 0::Value.int .i32 0::Value.int .u32 0::Value.int .i64 0::Value.slice none 0 0::Value.int .i32 0::Value.int .u32 0::Value.int .i64 0::Value.slice none 0 0::[])) 134))=((w2.alloc (.cells (#[Z,Z,V,V,E aS 4 cS,E aL 6 cL]) 47)).alloc (.cells jl 134)):=rfl;rw[hmc];clear hmc;have bw3:Below w.heap.size w ((w2.alloc (.cells (#[Z,Z,V,V,E aS 4 cS,E aL 6 cL]) 47)).alloc (.cells jl 134)):=(bw2.alloc aa _).alloc ix _;have hr3:aK ((w2.alloc (.cells (#[Z,Z,V,V,E aS 4 cS,E aL 6 cL]) 47)).alloc (.cells jl 134)) (w2.heap.size+1) 134 60=true:=jP _ jl 134 _ 60 ay iN;have hC3:aH ((w2.alloc (.cells (#[Z,Z,V,V,E aS 4 cS,E aL 6 cL]) 47)).alloc (.cells jl 134)) (w2.heap.size+1)=jl:=bG;have h63:aK ((w2.alloc (.cells (#[Z,Z,V,V,E aS 4 cS,E aL 6 cL]) 47)).alloc (.cells jl 134)) (w2.heap.size) 47 6=true:=bG;have g63:aH ((w2.alloc (.cells (#[Z,Z,V,V,E aS 4 cS,E aL 6 cL]) 47)).alloc (.cells jl 134)) (w2.heap.size)=(#[Z,Z,V,V,E aS 4 cS,E aL 6 cL]:AV):=bG;have HS3:=Lib.hid ((HS2.out.below ((Below.refl w2.heap.size w2).alloc (Nat.le_refl _) (.cells (#[Z,Z,V,V,E aS 4 cS,E aL 6 cL]) 47))).below ((Below.refl _ _).alloc (Nat.le_refl _) (.cells jl 134)));generalize((w2.alloc (.cells (#[Z,Z,V,V,E aS 4 cS,E aL 6 cL]) 47)).alloc (.cells jl 134))=W3 at*;have hc3:=aI hr3;have i63:=aI h63;have jM3:=bd hr3;have j63:=bd h63;generalize hr6e:w2.heap.size=r6 at*;generalize hMe:r6+1=M at*;have hn6:r6≠M:=aa;have hn6':¬(r6=M):=aa;have hn6'':¬(M=r6):=aa;have hMw:w.heap.size≤M:=aa;have hMq:r6<M:=aa;clear HS2 bw2 hr6e hMe bRc0 bVc0 bCc0 bLc0 bRc1 bVc1 bCc1 bLc1;refine bA (ax M W3) [0,1,2,3,4] 1 af af (fun _ _ d _ _ h=>bo) (ax.refl _ _).drew ?_;simp only[PL];apply ae;·exact jt
 try simp only[PT]
 apply ae;·exact jt
 try simp only[PT]
 apply ae;·exact jt
 try simp only[PT]
 apply ae;·exact jt
 try simp only[PT]
 apply ae;·exact jt
 try simp only[PT]
 refine aC ?_;refine aX 5 af af ?_;simp only[aU];go_wp2_with fail;refine(uU M 16 Z 0 _ bG bG).mono ?_;rintro e w'⟨rfl,rfl⟩;go_wp2;refine am (MS) ?_;refine cw af ?_;have u3:ax M W3 (W3.drew.setRow M jl):=aP (ax.refl _ _).drew _;have hq3:aK (W3.drew.setRow M jl) M 134 60=true:=fd _ hr3 iN;have hp3:aH (W3.drew.setRow M jl) M=jl:=fa _ hc3;have hb3:aK (W3.drew.setRow M jl) r6 47 6=true:=(gf _ _ _ _ _ _ hn6).trans h63;have hv3:aH (W3.drew.setRow M jl) r6=(#[Z,Z,V,V,E aS 4 cS,E aL 6 cL]:AV):=(gO _ _ _ _ hn6).trans g63;have HS4:=Lib.hid (HS3.out.upto u3 (fun e=>by have:=HQS.out _ e;omega));have bw4:Below w.heap.size w (W3.drew.setRow M jl):=ai bw3.drew aa _;generalize W3.drew.setRow M jl=W4 at*;have hr4:=hq3;have hC4:=hp3;have hc4:=aI hr4;have h64:=hb3;have g64:=hv3;have i64:=aI h64;have j64:=bd h64;have jM4:=bd hr4;clear u3 hq3 hp3 hb3 hv3 hr3 hC3 hc3 h63 g63 i63 j63 jM3;clear HS3 bw3;go_wp2_with fail;refine bA (ax M W4) [0,1,2,3,4] 1 af af (fun _ _ d _ _ h=>bo) (ax.refl _ _).drew ?_;simp only[PL];apply ae;·exact jt
 try simp only[PT]
 apply ae;·exact jt
 try simp only[PT]
 apply ae;·exact jt
 try simp only[PT]
 apply ae;·exact jt
 try simp only[PT]
 apply ae;·exact jt
 try simp only[PT]
 refine aC ?_;refine aX 5 af af ?_;simp only[aU];go_wp2_with fail;refine(uU M 17 Z 0 _ bG bG).mono ?_;rintro e w'⟨rfl,rfl⟩;go_wp2;refine am (MS) ?_;refine cw af ?_;skip;have u4:ax M W4 (W4.drew.setRow M jl):=aP (ax.refl _ _).drew _;have hq4:aK (W4.drew.setRow M jl) M 134 60=true:=fd _ hr4 iN;have hp4:aH (W4.drew.setRow M jl) M=jl:=fa _ hc4;have hb4:aK (W4.drew.setRow M jl) r6 47 6=true:=(gf _ _ _ _ _ _ hn6).trans h64;have hv4:aH (W4.drew.setRow M jl) r6=(#[Z,Z,V,V,E aS 4 cS,E aL 6 cL]:AV):=(gO _ _ _ _ hn6).trans g64;have HS5:=Lib.hid (HS4.out.upto u4 (fun e=>by have:=HQS.out _ e;omega));have bw5:Below w.heap.size w (W4.drew.setRow M jl):=ai bw4.drew aa _;generalize W4.drew.setRow M jl=W5 at*;have hr5:=hq4;have hC5:=hp4;have hc5:=aI hr5;have h65:=hb4;have g65:=hv4;have i65:=aI h65;have j65:=bd h65;have jM5:=bd hr5;clear u4 hq4 hp4 hb4 hv4 hr4 hC4 hc4 h64 g64 i64 j64 jM4;clear HS4 bw4;go_wp2;go_loopg[39]4(fun g s39 wr=>∃k:Nat,s39= .int .i64 k∧k+g=4∧aK wr M 134 60=true∧aH wr M=jl∧Hid (Below w.heap.size w wr∧Sl wr (E aS 4 cS) 2 (List.replicate 4 #[Z,V])));case atStart=>exact⟨0,rfl,rfl,hr5,hC5,Lib.hid ⟨bw5,HS5.out⟩⟩
 case round=>
  obtain⟨k,rfl,hg,hrr,hCr,HH⟩:=hrel;obtain⟨hB,hSl⟩:=HH.out;clear HS5 bw5 hr5 hC5 hc5 h65 g65 i65 j65 jM5;have hcr:=aI hrr;have hMr:=bd hrr;cases gk with
   |zero=>have hk:¬((k:Int)<4):=aa;go_wp2;refine bodyPost_ret (v:=.tuple #[H M 0,Z]) (by simp[results,Tryz.results16,go_sem]) rfl ?_;exact⟨M,rfl,hrr,hCr,aa,hB⟩
   |succ m=>
    have hk:(k:Int)<4:=aa;have hk4:k<4:=aa;have hk0:¬((k:Int)<0):=aa;have hk1:0≤(k:Int):=aa;have hk8:(k:Int)<8:=aa;have hput:=KG k hk4;obtain⟨g,o,cL2,e1,hgw,e2,e3,e4,e5⟩:=eC hSl (k:=k) (D:=#[Z,V]) (by rw[List.getElem?_replicate,if_pos hk4]);simp only[Value.slice.injEq]at e1;obtain⟨rfl,-,-⟩:=e1;have hgM:¬(g=M):=fun e=>by have:=HQS.out g rfl;omega
    have hMg:¬(M=g):=fun e=>hgM e.symm;have HSr:=Lib.hid hSl;have hrs:¬(wr.heap.size=M):=aa;have hsr:¬(M=wr.heap.size):=aa;clear hSl HH;go_wp2_with fail;have W5b:aK (wr.alloc (.cells (#[Z,V]) 129)) wr.heap.size 129 2=true:=bG;have W5v:aH (wr.alloc (.cells (#[Z,V]) 129)) wr.heap.size=(#[Z,V]:AV):=bG;have bw6:Below w.heap.size w (wr.alloc (.cells (#[Z,V]) 129)):=hB.alloc (by have:=hB.size;omega) _;obtain⟨hr6,hC6⟩:=cm hrr hCr ((Below.refl wr.heap.size wr).alloc (Nat.le_refl _) (.cells (#[Z,V]) 129));have HS6:=Lib.hid (HSr.out.below ((Below.refl wr.heap.size wr).alloc (Nat.le_refl _) (.cells (#[Z,V]) 129)));generalize wr.alloc (.cells (#[Z,V]) 129)=W6 at*;generalize wr.heap.size=r9 at*;have hc6:=aI hr6;have jM6:=bd hr6;have W5c:=aI W5b;have W5l:=bd W5b;have hfit:bU W6 M (28+k*4+2) 2=true:=oB hc6 (by rw[hC6,iN];omega);refine bA (ax M W6) [0,1,2,3,4,5,6] 1 af af (fun _ _ d _ _ h=>bo) (ax.refl _ _).drew ?_;simp only[PL];apply ae;·exact jt
    try simp only[PT]
    apply ae;·exact jt
    try simp only[PT]
    apply ae;·exact jt
    try simp only[PT]
    apply ae;·exact jt
    try simp only[PT]
    apply ae;·exact jt
    try simp only[PT]
    apply ae;·exact jt
    try simp only[PT]
    apply ae;·exact jt
    try simp only[PT]
    refine aC ?_;refine aX 7 af af ?_;simp only[aU];go_wp2_with fail;refine am (MS) ?_;refine cw af ?_;go_wp2_with fail;go_roundg m;case measure=>omega
    case rel=>exact⟨k+1,ay,aa,fd _ hr6 iN,fa _ hc6,Lib.hid ⟨ai bw6.drew aa _,(HS6.out.upto (aP (ax.refl M W6).drew _) (fun e=>by have:=HQS.out _ e;omega))⟩⟩
end
section
attribute[local go_sem↓]ew dR fe eN bZ bO bI bu aZ aW
attribute[local go_sem]fy eZ fH ff cz cK bT cd dC bq eV eW gW gV fz
end
section
attribute[local go_sem↓]aZ aW bv bj
attribute[local go_sem]bN bz dC
theorem vE{p:Prop}(h:p:=by
 have hwr:IntKind.i64.wrap ((i:Int)+1)=(i:Int)+1:=eD;go_wp2;go_roundg(D0.length-(i+1));case measure=>rw[HG.out];omega
 case rel=>exact⟨i+1,D,ay,aa,aa,rfl,Lib.hid ⟨HPr.out,(by have:=HSr.out.below hS1.out;rw[HPr.out]at this;exact this),HUr.out.trans (hS1.out.mono aa)⟩⟩):p:=h
theorem vl(x y:Nat)(w:World):Calls Tryz.prog 77 #[.agg (#[F,U,J (aM x),I 80,Y,I (Pm.tOf x),Z,I (Pm.tOf x),Z,Z]),.agg (#[F,U,J (aM y),I 80,Y,I (Pm.tOf y),Z,I (Pm.tOf y),Z,Z])] w fun e w'=>e= .returned (I (GB x y))∧Below w.heap.size w w':=by go_enter Tryz.func77,Tryz.ntmps77;go_wp2_with(go_at_call 75;refine(Cp x y _).mono ?_;rintro e w1⟨rfl,hb⟩;have hk:=aw.mk hb;clear hb);go_ret;exact⟨rfl,bY⟩
theorem jX{W:World}{B:Nat}{a:Option Addr}{cap:Nat}{L:List Nat}(h:aV W B 75 10 (E a L.length cap) (L.map aJ)){i:Nat}(hi:i<L.length):∃g,a=some ⟨g,0,none⟩∧B≤g∧g<W.heap.size∧aR W ⟨g,i*10,none⟩ 10=true∧aO W ⟨g,i*10,none⟩ 10=aJ L[i]∧bU W g (i*10) 10=true∧∀x,aV (dK W g (i*10) (aJ x)) B 75 10 (E a L.length cap) ((L.set i x).map aJ):=by obtain⟨g,cap',e,-,-,hB,hg,hf,-⟩:=h.setEl (i:=i) lw (C:=aJ 0) rfl rfl;simp only[Value.slice.injEq]at e;obtain⟨rfl,-,rfl⟩:=e;obtain⟨g',o,cL,e,hg',h1,h2,-⟩:=eC h.sl (k:=i) (D:=aJ L[i]) (by simp[hi]);simp only[Value.slice.injEq,Option.some.injEq,Addr.mk.injEq,and_true]at e;obtain⟨⟨rfl,rfl⟩,-⟩:=e;rw[Nat.zero_add]at h1 h2;refine⟨g,rfl,hB,hg,h1,h2,hf,fun x=>?_⟩;obtain⟨g2,cap2,e2,-,-,-,-,-,h9⟩:=h.setEl (i:=i) lw (C:=aJ x) rfl rfl;simp only[Value.slice.injEq,Option.some.injEq,Addr.mk.injEq,and_true]at e2;obtain⟨rfl,-⟩:=e2;rw[List.map_set];exact h9
theorem yO(B:Nat)(a:Option Addr)(cap:Nat)(D0:List Nat)(w:World)(h:aV w B 75 10 (E a D0.length cap) (D0.map aJ))(hl:D0.length≤100):Calls Tryz.prog 229 #[E a D0.length cap,Z,D0.length,.func (.func 77) #[] #[]] w fun e w'=>e= .returned (.tuple #[])∧∃D:List Nat,D.length=D0.length∧aV w' B 75 10 (E a D0.length cap) (D.map aJ)∧Below (min B w.heap.size) w w':=by
 have HS0:=Lib.hid h;clear h;go_enter Tryz.func229,Tryz.ntmps229;go_wp2;go_loopg[8](D0.length-1)(fun gk s8 wr=>∃(i:Nat)(D:List Nat),s8= .int .i64 (i:Int)∧i≤D0.length+1∧1≤i∧gk=D0.length-i∧Hid (D.length=D0.length∧aV wr B 75 10 (E a D0.length cap) (D.map aJ)∧Below (min B w.heap.size) w wr));case atStart=>exact⟨1,D0,rfl,aa,Nat.le_refl _,aa,Lib.hid ⟨rfl,HS0.out,Below.refl _ _⟩⟩
 case round=>
  obtain⟨i,D,rfl,hi1,hi0,hgk,HH⟩:=hrel;have HG:=Lib.hid hgk;clear hgk;by_cases hi:i<D0.length;·
   have hiz:(i:Int)<(D0.length:Int):=aa;go_wp2;go_loopg[9]i(fun gj s9 wr=>∃(j:Nat)(D:List Nat),s9= .int .i64 (j:Int)∧gj=j∧j≤i∧Hid (D.length=D0.length∧aV wr B 75 10 (E a D0.length cap) (D.map aJ)∧Below (min B w.heap.size) w wr));case atStart=>exact⟨i,D,rfl,rfl,Nat.le_refl _,HH⟩
   case round=>
    obtain⟨j,D,rfl,hgj,hji,HH⟩:=hrel;have HGJ:=Lib.hid hgj;clear hgj;obtain⟨hp,hS,hU⟩:=HH.out;have HPr:=Lib.hid hp;have HSr:=Lib.hid (show aV wr B 75 10 (E a D.length cap) (D.map aJ)by rw[hp];exact hS);have HUr:=Lib.hid hU;clear hS;have hws:=hU.size;clear hU;cases j with
     |zero=>
      clear hp;go_upto_region 4 with(fail);refine bH af af ?_;repeat
       (
        first|go_big_quiet_skip|
         (
          go_big_quiet_want;apply bp;·intro W hS;have xx:=cZ hS.out;(try have zz:=zs w.heap.size W.heap.size);go_simp;try first|with_reducible rfl
          go_big_quiet_on;try simp only[PT]))
      refine wpQuiet_nil ?_;intro w1 hS1;have xxa:=cZ hS1.out;(try have zza:=zs w.heap.size w1.heap.size);have hw1s:=hS1.out.size;exact vE
     |succ m=>
      have hj1:m+1<D.length:=aa;have hj0:m<D.length:=aa;clear hp;obtain⟨g,rfl,hgB,hgr,c1,d1,f1,-⟩:=jX HSr.out hj1;obtain⟨g',e',-,-,c0,d0,f0,-⟩:=jX HSr.out hj0;simp only[Option.some.injEq,Addr.mk.injEq,and_true]at e';subst e';unfold aJ at d1 d0;have hm1:((m+1)*10:Nat)=(m+1)*10:=rfl;have hgt':(((m+1:Nat):Int)>0):=aa;have hgt:((m:Int)+1>0):=aa;have hsub:IntKind.i64.wrap ((m:Int)+1-1)=(m:Int):=eD;have hsub':IntKind.i64.wrap (((m+1:Nat):Int)-1)=(m:Int):=eD;have hsub2:((m+1:Nat):Int)-1=(m:Int):=aa;have hb1:(m:Int)+1<(D0.length:Int):=by have:=HPr.out;omega
      have hb0:(m:Int)<(D0.length:Int):=by have:=HPr.out;omega
      have hb1':((m+1:Nat):Int)<(D0.length:Int):=by have:=HPr.out;omega
      have hn1:¬((m:Int)+1<0):=aa;have hn1':¬(((m+1:Nat):Int)<0):=aa;have hn0':¬((m:Int)<0):=aa;have ht1:((m:Int)+1).toNat=m+1:=aa;have hwm:IntKind.i64.wrap (m:Int)=(m:Int):=eD;have h0m:0≤(m:Int)+1:=aa;have h0m':0≤(m:Int):=aa;by_cases hlt:GB D[m+1] D[m]<0;·
       go_upto_region 4 with(fail);refine bH af af ?_;repeat
        (
         first|go_big_quiet_skip|
          (
           go_big_quiet_want;apply bp;·intro W hS;have xx:=cZ hS.out;(try have zz:=zs w.heap.size W.heap.size);go_simp;try first|with_reducible rfl|(go_at_call 77;refine(vl D[m+1] D[m] _).mono ?_;rintro e w'⟨rfl,hb⟩;exact⟨rfl,cP hS hb⟩)
           go_big_quiet_on;try simp only[PT]))
       refine wpQuiet_nil ?_;intro w1 hS1;have xxa:=cZ hS1.out;(try have zza:=zs w.heap.size w1.heap.size);have HS1:=Lib.hid (HSr.out.below hS1.out);have hg1:g<w1.heap.size:=Nat.lt_of_lt_of_le hgr hS1.out.size;clear c1 d1 f1 c0 d0 f0;obtain⟨g',e',-,-,c1,d1,f1,s1⟩:=jX HS1.out hj1;simp only[Option.some.injEq,Addr.mk.injEq,and_true]at e';subst e';obtain⟨g',e',-,-,c0,d0,f0,-⟩:=jX HS1.out hj0;simp only[Option.some.injEq,Addr.mk.injEq,and_true]at e';subst e';have HSS:=Lib.hid s1;clear s1;unfold aJ at d1 d0;(try clear xxa);(try clear zza);go_upto_region 6 with(fail);refine eU [2,3,4] [0,1,5,6,7,8,9,10,11,12,13,14] [15,16,17] af af (fun _ _ d _ _ h=>bo) ?_;simp only[PL];apply iF;·intro W;go_simp;try with_reducible rfl
       try simp only[PT]
       apply iF;·intro W;go_simp;try with_reducible rfl
       try simp only[PT]
       apply iF;·intro W;go_simp;try with_reducible rfl
       try simp only[PT]
       refine ge ?_;repeat
        (
         first|go_big_quiet_skip|
          (
           go_big_quiet_want;apply bp;·intro W hS;have xx:=cZ hS.out;(try have zz:=zs w.heap.size W.heap.size);go_simp;try first|with_reducible rfl
           go_big_quiet_on;try simp only[PT]))
       refine wpQuiet_nil ?_;intro w2 hS2;have xxb:=cZ hS2.out;(try have zzb:=zs w.heap.size w2.heap.size);have HS2:=Lib.hid (HS1.out.below hS2.out);have hg2:g<w2.heap.size:=Nat.lt_of_lt_of_le hg1 hS2.out.size;clear c1 d1 f1 c0 d0 f0;obtain⟨g',e',-,-,c1,d1,f1,s1⟩:=jX HS2.out hj1;simp only[Option.some.injEq,Addr.mk.injEq,and_true]at e';subst e';have hS3:=s1 D[m];rw[show D.length=(D.set (m+1) D[m]).length by simp]at hS3;obtain⟨g',e',-,-,c0,d0,f0,s2⟩:=jX hS3 (i:=m) (by simpa using hj0);simp only[Option.some.injEq,Addr.mk.injEq,and_true]at e';subst e';have hs4:=s2 D[m+1];have hb4:=ce (ce (HUr.out.trans ((hS1.out.trans (hS2.out.mono hS1.out.size)).mono aa)) (show min B w.heap.size≤g by omega) ((m+1)*10) (aJ D[m])) (show min B w.heap.size≤g by omega) (m*10) (aJ D[m+1]);simp only[bq,Mr]at hs4 hb4;have HS4:=Lib.hid hs4;have HB4:=Lib.hid hb4;clear s1 s2 hS3 c0 d0 c1 d1 hb4;clear hs4;unfold aJ at f0;rw[bq]at f0;(try clear xxb);(try clear zzb);go_wp2;go_roundg m;case measure=>rw[HGJ.out];omega
       case rel=>exact⟨m,(D.set (m+1) D[m]).set m D[m+1],rfl,rfl,aa,Lib.hid ⟨by simp[HPr.out],(by have:=HS4.out;simp only[List.length_set]at this;rw[HPr.out]at this;exact this),HB4.out⟩⟩
      ·go_upto_region 4 with(fail);refine bH af af ?_;repeat
        (
         first|go_big_quiet_skip|
          (
           go_big_quiet_want;apply bp;·intro W hS;have xx:=cZ hS.out;(try have zz:=zs w.heap.size W.heap.size);go_simp;try first|with_reducible rfl|(go_at_call 77;refine(vl D[m+1] D[m] _).mono ?_;rintro e w'⟨rfl,hb⟩;exact⟨rfl,cP hS hb⟩)
           go_big_quiet_on;try simp only[PT]))
       refine wpQuiet_nil ?_;intro w1 hS1;have xxa:=cZ hS1.out;(try have zza:=zs w.heap.size w1.heap.size);exact vE
  ·have hiz:¬((i:Int)<(D0.length:Int)):=aa;obtain⟨hp,hS,hU⟩:=HH.out;have HR:=Lib.hid (And.intro hp (And.intro hS hU));clear hp hS hU;go_wp2;exact bodyPost_end (results_none rfl _ _ _) rfl ⟨rfl,D,HR.out⟩
theorem zk(B:Nat)(a:Option Addr)(cap:Nat)(D0:List Nat)(w:World)(h:aV w B 75 10 (E a D0.length cap) (D0.map aJ))(hl:D0.length≤19):Calls Tryz.prog 172 #[E a D0.length cap,D0.length,.func (.func 77) #[] #[]] w fun e w'=>e= .returned (.tuple #[])∧∃D:List Nat,D.length=D0.length∧aV w' B 75 10 (E a D0.length cap) (D.map aJ)∧Below (min B w.heap.size) w w':=by
 have HL:=Lib.hid (yO B a cap D0 w h aa);clear h;have h20:¬((20:Int)≤(D0.length:Int)):=aa;have h20':¬((20:Int)<(D0.length:Int)):=aa;go_enter Tryz.func172,Tryz.ntmps172;go_wp2;go_loopg[7,8]0(fun gk s7 s8 wr=>s7= .int .i64 0∧s8= .int .i64 20∧wr=w);case atStart=>exact⟨rfl,rfl,rfl⟩
 case round=>
  obtain⟨rfl,rfl,rfl⟩:=hrel;go_wp2_with(go_at_call 229;refine HL.out.mono ?_;rintro e w1⟨rfl,hR⟩;have HR:=Lib.hid hR;clear hR);go_loopg[6]0(fun gk s6 wx=>s6= .int .i64 20∧wx=w1);case atStart=>exact⟨rfl,rfl⟩
  case round=>obtain⟨rfl,rfl⟩:=hrel;go_wp2;exact bodyPost_end (results_none rfl _ _ _) rfl ⟨rfl,HR.out⟩
theorem ES(B:Nat)(a:Option Addr)(cap:Nat)(D0:List Nat)(w:World)(h:aV w B 75 10 (E a D0.length cap) (D0.map aJ))(hl:D0.length≤19):Calls Tryz.prog 114 #[E a D0.length cap,.func (.func 77) #[] #[]] w fun e w'=>e= .returned (.tuple #[])∧∃D:List Nat,D.length=D0.length∧aV w' B 75 10 (E a D0.length cap) (D.map aJ)∧Below (min B w.heap.size) w w':=by have HL:=Lib.hid (zk B a cap D0 w h hl);clear h;go_enter Tryz.func114,Tryz.ntmps114;go_wp2_with(go_at_call 172;refine HL.out.mono ?_;rintro e w1⟨rfl,hR⟩;have HR:=Lib.hid hR;clear hR);exact bodyPost_end (results_none rfl _ _ _) rfl ⟨rfl,HR.out⟩
theorem Bs(L:List Nat)(hl:L.length≤19)(v:Value)(w:World)(h:Sl w v 10 (L.map aJ)):Calls Tryz.prog 70 #[v] w fun e w'=>∃(v':Value)(D:List Nat),e= .returned v'∧D.length=L.length∧aV w' w.heap.size 75 10 v' (D.map aJ)∧Below w.heap.size w w':=by have HC:=Lib.hid (rv v _ w h aF);clear h;go_enter Tryz.func70,Tryz.ntmps70;go_wp2_with fail;refine HC.out.mono ?_;rintro e w1⟨v1,rfl,ho,hb⟩;have hsz:=hb.size;have HB:=Lib.hid hb;clear hb;obtain⟨a,cap,rfl,-⟩:=id ho.sl;simp only[List.length_map]at ho⊢;have HO:=Lib.hid ho;clear ho;go_wp2_with fail;refine(ES w.heap.size a cap L w1 HO.out hl).mono ?_;rintro e w2⟨rfl,D,hD,hO,hb⟩;rw[Nat.min_eq_left hsz]at hb;have HR:=Lib.hid (And.intro hD (And.intro hO hb));clear hD hO hb;go_wp2;refine bodyPost_ret (results_tmp rfl _ _ _) rfl ?_;exact⟨_,D,rfl,HR.out.1,HR.out.2.1,HB.out.trans HR.out.2.2⟩
theorem EM(l:List Nat)(hl:l.length≤900)(v:Value)(w:World)(h:Sl w v 10 (l.map aJ)):Calls Tryz.prog 69 #[.agg #[l.length,v]] w fun e w'=>∃v',e= .returned v'∧aV w' w.heap.size 75 10 v' (l.map aJ)∧Below w.heap.size w w':=by
 have Hx:=Lib.hid h;have HC:=Lib.hid (fun(W:World)(b:Below w.heap.size w W)=>rv v _ W (Hx.out.below b) aF);obtain⟨a,cap,rfl,hc,-⟩:=id h;simp only[List.length_map]at hc Hx HC⊢;have hmx:max (l.length:Int) 0=l.length:=aa;have hmn:min (l.length:Int) (l.length:Int)=l.length:=aa;have n0:¬((l.length:Int)<0):=aa;have n1:(l.length:Int)≤cap:=aa;have n2:0≤(l.length:Int):=aa;have n3:¬((cap:Int)<(l.length:Int)):=aa;clear h;go_enter Tryz.func69,Tryz.ntmps69;rcases a with _|⟨g,o,sp⟩;·
  have hl0:l=[]:=by
   obtain⟨a',c',e,-,-,h3⟩:=Hx.out;simp only[Value.slice.injEq]at e;obtain⟨rfl,-,-⟩:=e;rcases h3 with⟨-,h3⟩|⟨g,o,h3,-⟩;·simpa using h3
   ·cases h3
  subst hl0;go_wp2_with(go_at_call 113;refine(HC.out _ (bY)).mono ?_;rintro e w1⟨v1,rfl,ho,hb⟩;have HO:=Lib.hid ho;have hk:=aw.mk hb;clear ho hb);refine bodyPost_ret (results_tmp rfl _ _ _) rfl ?_;exact⟨_,rfl,HO.out.weaken ay,bY⟩
 ·go_wp2_with(go_at_call 113;refine(HC.out _ (bY)).mono ?_;rintro e w1⟨v1,rfl,ho,hb⟩;have HO:=Lib.hid ho;have hk:=aw.mk hb;clear ho hb);refine bodyPost_ret (results_tmp rfl _ _ _) rfl ?_;exact⟨_,rfl,HO.out.weaken ay,bY⟩
end
end Go.Proofs.YtnncjbkepakgpaaGreat
