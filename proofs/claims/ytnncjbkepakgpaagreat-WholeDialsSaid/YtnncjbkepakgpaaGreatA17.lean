/- DRAWN REGIONS, IN FEW WORDS. ADDRESSES, SUBNETS, ENDS, as values. MASKS, SUBNETS, GROUPS, as values. SUBNETS, GROUPS, ORDERS, as values. SUBNETS, GROUPS, ORDERS, as values: what they say. ORDERS of addresses, subnets, ends; ends that may be. -/
import Derived.Test.YtnncjbkepakgpaaGreatA15
namespace Go.Proofs.YtnncjbkepakgpaaGreat
open Go.RowKit Qv
set_option linter.unusedVariables false
set_option linter.unusedSimpArgs false
set_option maxRecDepth 100000
set_option maxHeartbeats 1000000
section
theorem J6(w:World):w.drew.heap.size=w.heap.size:=id rfl
theorem cb{p:Prop}(h:p:=by first|trivial|(refine⟨?_⟩;(repeat'(first|(with_reducible exact Below.refl _ _)|(with_reducible apply Below.drew)|(with_reducible refine Below.alloc ?_ ?_ _)|(with_reducible refine Below.setCell ?_ ?_ _)|(with_reducible refine ai ?_ ?_ _)|(with_reducible refine ce ?_ ?_ _ _)|(refine aw.since et ?_ ?_)|(refine aj et ?_ ?_)|(with_reducible exact Nat.le_refl _)|omega|(simp;done)|(simp;omega)|(exact Nat.le_refl _)|(show _≤(World.alloc _ _).heap.size;simp;done)));done)|((repeat'(first|(with_reducible exact Below.refl _ _)|(with_reducible apply Below.drew)|(with_reducible refine Below.alloc ?_ ?_ _)|(with_reducible refine Below.setCell ?_ ?_ _)|(with_reducible refine ai ?_ ?_ _)|(with_reducible refine ce ?_ ?_ _ _)|(refine aw.since et ?_ ?_)|(refine aj et ?_ ?_)|(with_reducible exact Nat.le_refl _)|omega|(simp;done)|(simp;omega)|(exact Nat.le_refl _)|(show _≤(World.alloc _ _).heap.size;simp;done)));done)|(repeat'(first|exact ax.refl _ _|(with_reducible apply ax.drew)|(with_reducible refine aP ?_ _)|assumption|exact ax.of_below et|exact ax.of_below (aw.out et)|exact Hid.out et))):p:=h
theorem rd{p:Prop}(h:p:=by intro W hS;have hF:=HF.out W hS;simp only[Bx,Bo]at hF;go_simp;try with_reducible rfl):p:=h
theorem cs{p:Prop}(h:p:=by first|exact Nat.le_refl _|omega|(simp;done)|(simp;omega)|(simp only[J6];omega)):p:=h
section
variable{P:Program}{Q:Exit→Act→World→Prop}{C:World→Prop}{l:List Oper}{L:Array Bool}{f:Nat}{a:Act}{w:World}
theorem ba{K:Act→World→Prop}{a:Act}{w:World}(h':K a w)(h:C w:=by exact cb):eM C K Q .normal a w:=⟨h,h'⟩
theorem cU(h:Q .normal a w)(hr:(Region.ready .any l.toArray L).isEmpty=true:=by kernel_rfl):ch P .any l.toArray C Q 0 L a w:=cw hr h
theorem bl(i:Nat)(h:wpList P l.toArray (eM C (ch P .any l.toArray C Q f (L.setIfInBounds i true)) Q) (aU l i) a w)(hr:(Region.ready .any l.toArray L==[i])=true:=by kernel_rfl)(hi:(l[i]?).isSome=true:=by kernel_rfl):ch P .any l.toArray C Q (f+1) L a w:=aX i hr hi h
theorem xo(i k:Nat)(h:wpList P l.toArray (eM C (ch P .any l.toArray C Q f (L.setIfInBounds i true)) Q) (aU l i) a w)(h':wpList P l.toArray (eM C (ch P .any l.toArray C Q f (L.setIfInBounds k true)) Q) (aU l k) a w)(hr:(Region.ready .any l.toArray L==[i,k])=true:=by kernel_rfl)(hi:(l[i]?).isSome=true:=by kernel_rfl)(hk:(l[k]?).isSome=true:=by kernel_rfl):ch P .any l.toArray C Q (f+1) L a w:=fT i k hr hi hk h h'
theorem bE(fs:List Nat)(f:Nat){m:Nat}(h:ei P C (fun a'=>ch P .any l.toArray C Q f (dH L fs) a' w) (bX l fs) a)(he:fs.length+f=m:=by rfl)(hB:(Region.noSelect l.toArray&&fL l.toArray fs L)=true:=by kernel_rfl)(hQ:∀c(a:Act)d v w,Q (.panic c) (a.put d v) w→Q (.panic c) a w:=by exact fun _ _ d _ _ h=>bo)(hC:C w:=by exact cb):ch P .any l.toArray C Q m L a w:=bb fs f he hB hQ hC h
theorem Rv(i:Nat)(h:uR P l.toArray C (fun a'=>ch P .any l.toArray C Q f (L.setIfInBounds i true) a' w) (aU l i) a)(hB:(Region.noSelect l.toArray&&Region.free .any l.toArray L i&&(Region.ready .any l.toArray L).contains i&&(l[i]?).isSome)=true:=by kernel_rfl)(hQ:∀c(a:Act)d v w,Q (.panic c) (a.put d v) w→Q (.panic c) a w:=by exact fun _ _ d _ _ h=>bo)(hC:C w:=by exact cb):ch P .any l.toArray C Q (f+1) L a w:=eI i hB hQ hC h
theorem RM{ops:Array Oper}{K:Act→Prop}{o:Oper}{v:Value}(hK:K (a.put o.dst v))(h:∀W,C W→(execOp a.eval o).run P W= .ok (.value v) W:=by exact rd)(hw:Region.wanted o (yielded ops a.tmps)=true:=by rfl):uR P ops C K [o] a:=jO hw h hK
theorem RL{ops:Array Oper}{K:Act→Prop}{o:Oper}(hK:K (a.put o.dst undef))(hw:Region.wanted o (yielded ops a.tmps)=false:=by rfl):uR P ops C K [o] a:=jN hw hK
theorem cQ{id:Nat}(C:World→Prop)(fs:List Nat)(n:Nat)(h:ei P C (fun a'=>ch P .any l.toArray C Q n (dH (Array.replicate l.length false) fs) a' w.drew) (bX l fs) a)(hm:P.follows .mixedOrders=true:=by kernel_rfl)(hB:(Region.noSelect l.toArray&&fL l.toArray fs (Array.replicate l.length false)&&decide (fs.length+n=l.length))=true:=by kernel_rfl)(hQ:∀c(a:Act)d v w,Q (.panic c) (a.put d v) w→Q (.panic c) a w:=by exact fun _ _ d _ _ h=>bo)(hC:C w.drew:=by exact cb):(Code.region id l.toArray true).wp P Q a w:=bA C fs n hm hB hQ hC h
section
variable{z:Nat}
theorem Fi(h:Q .normal a w)(hr:(Region.ready .any l.toArray L).isEmpty=true:=by kernel_rfl):dg P .any l.toArray z C Q 0 L a w:=dX hr h
theorem qn(i:Nat)(h:wpList P l.toArray (eM C (dg P .any l.toArray z C Q f (L.setIfInBounds i true)) Q) (aU l i) a w)(hr:(Region.ready .any l.toArray L==[i])=true:=by kernel_rfl)(hi:(l[i]?).isSome=true:=by kernel_rfl):dg P .any l.toArray z C Q (f+1) L a w:=bg i hr hi h
theorem Fj(i:Nat)(h:wpList P l.toArray (eM (fun _=>True) (dg P .any l.toArray z C Q f (L.setIfInBounds i true)) Q) (aU l i) a w)(hz:i=z:=by rfl)(hr:(Region.ready .any l.toArray L==[i])=true:=by kernel_rfl)(hi:(l[i]?).isSome=true:=by kernel_rfl):dg P .any l.toArray z C Q (f+1) L a w:=dp i hz hr hi h
theorem OT(i k:Nat)(h:wpList P l.toArray (eM C (dg P .any l.toArray z C Q f (L.setIfInBounds i true)) Q) (aU l i) a w)(h':wpList P l.toArray (eM C (dg P .any l.toArray z C Q f (L.setIfInBounds k true)) Q) (aU l k) a w)(hr:(Region.ready .any l.toArray L==[i,k])=true:=by kernel_rfl)(hi:(l[i]?).isSome=true:=by kernel_rfl)(hk:(l[k]?).isSome=true:=by kernel_rfl):dg P .any l.toArray z C Q (f+1) L a w:=mL i k hr hi hk h h'
theorem BF(fs:List Nat)(f:Nat){m:Nat}(h:ei P C (fun a'=>dg P .any l.toArray z C Q f (dH L fs) a' w) (bX l fs) a)(hwz:iZ .any l z=true:=by kernel_rfl)(he:fs.length+f=m:=by rfl)(hB:(Region.noSelect l.toArray&&fL l.toArray fs L)=true:=by kernel_rfl)(hQ:∀c(a:Act)d v w,Q (.panic c) (a.put d v) w→Q (.panic c) a w:=by exact fun _ _ d _ _ h=>bo)(hC:C w:=by exact cb):dg P .any l.toArray z C Q m L a w:=dV hwz fs f he hB hQ hC h
theorem OQ{id:Nat}(z:Nat)(C:World→Prop)(fs:List Nat)(n:Nat)(h:ei P C (fun a'=>dg P .any l.toArray z C Q n (dH (Array.replicate l.length false) fs) a' w.drew) (bX l fs) a)(hwz:iZ .any l z=true:=by kernel_rfl)(hm:P.follows .mixedOrders=true:=by kernel_rfl)(hB:(Region.noSelect l.toArray&&fL l.toArray fs (Array.replicate l.length false)&&decide (fs.length+n=l.length))=true:=by kernel_rfl)(hQ:∀c(a:Act)d v w,Q (.panic c) (a.put d v) w→Q (.panic c) a w:=by exact fun _ _ d _ _ h=>bo)(hC:C w.drew:=by exact cb):(Code.region id l.toArray true).wp P Q a w:=cN z hwz C fs n hm hB hQ hC h
end
end
theorem Q6{p:Prop}(h:p:=by(simp only[PT])<;>rfl):p:=h
section
variable{P:Program}{Q:Exit→Act→World→Prop}{C:World→Prop}{l:List Oper}{L:Array Bool}{f:Nat}{a a':Act}{w:World}{o:Oper}{v:Value}{K:Act→Prop}
theorem gY(i:Nat)(h:ch P .any l.toArray C Q f (L.setIfInBounds i true) a' w)(hp:aU l i=[o]:=by rfl)(hr:∀W,C W→(execOp a.eval o).run P W= .ok (.value v) W:=by exact rd)(ha:a.put o.dst v=a':=by exact Q6)(hw:Region.wanted o (yielded l.toArray a.tmps)=true:=by rfl)(hB:(Region.noSelect l.toArray&&Region.free .any l.toArray L i&&(Region.ready .any l.toArray L).contains i&&(l[i]?).isSome)=true:=by kernel_rfl)(hQ:∀c(a:Act)d v w,Q (.panic c) (a.put d v) w→Q (.panic c) a w:=by exact fun _ _ d _ _ h=>bo)(hC:C w:=by exact cb):ch P .any l.toArray C Q (f+1) L a w:=Rv i (by rw[hp];exact RM (by rw[ha];exact h) hr hw) hB hQ hC
theorem gN(i:Nat)(h:ch P .any l.toArray C Q f (L.setIfInBounds i true) a' w)(hp:aU l i=[o]:=by rfl)(ha:a.put o.dst undef=a':=by exact Q6)(hw:Region.wanted o (yielded l.toArray a.tmps)=false:=by rfl)(hB:(Region.noSelect l.toArray&&Region.free .any l.toArray L i&&(Region.ready .any l.toArray L).contains i&&(l[i]?).isSome)=true:=by kernel_rfl)(hQ:∀c(a:Act)d v w,Q (.panic c) (a.put d v) w→Q (.panic c) a w:=by exact fun _ _ d _ _ h=>bo)(hC:C w:=by exact cb):ch P .any l.toArray C Q (f+1) L a w:=Rv i (by rw[hp];exact RL (by rw[ha];exact h) hw) hB hQ hC
theorem pO{i:Nat}{is:List Nat}(h:ei P C K (bX l is) a')(hp:aU l i=[o]:=by rfl)(hr:∀W,C W→(execOp a.eval o).run P W= .ok (.value v) W:=by exact rd)(ha:a.put o.dst v=a':=by exact Q6):ei P C K (bX l (i::is)) a:=by rw[PL.2.1,hp];exact⟨v,hr,by rw[ha];exact h⟩
theorem pE(h:K a):ei P C K (bX l []) a:=h
end
end
section
theorem DF{p:Prop}(h:p:=by
 rintro e w4q⟨rfl,hb⟩;have kq4:Below WB.heap.size WB w4q:=aj hb cb cs;have hk4:=aw.mk kq4;have sq4:=kq4.size;have hB4:=Bx.mono kq4 HB.out aF;simp only[Bx,Bo]at hB4;clear hb;rw[e];go_wp2;refine ba ?_;refine bE [6,7] 0 ?_;iterate 2 refine pO ?_
 refine pE ?_;refine cU ?_;go_wp2;go_ret;exact⟨rfl,d0.trans (kq4.mono aa)⟩):p:=h
theorem ah(w:World):w.drew.heap.size=w.heap.size:=id rfl
attribute[local go_sem high]ah
attribute[local simp high]ah
theorem mT:lj 34:=fun _ _ _ _ _ _ _=>rfl
theorem xa:lh 34 3:=l6 ks Tryz.underlying34 rfl
theorem rY:ll 34:=fun _ _ _ _ _ _ _ _=>rfl
theorem ul:li 34 3:=mG ks
attribute[go_sem↓]mT rY
attribute[go_sem]xa ul
theorem tV:lj 39:=fun _ _ _ _ _ _ _=>rfl
theorem xe:lh 39 4:=l6 gH Tryz.underlying39 rfl
theorem rZ:ll 39:=fun _ _ _ _ _ _ _ _=>rfl
theorem um:li 39 4:=mG gH
attribute[go_sem↓]tV rZ
attribute[go_sem]xe um
def U6(x:Int):Prop:=0≤x∧x<18446744073709551616
theorem FE{x:Int}(h:U6 x):bits .and .u64 x 4294967295=x%4294967296:=by obtain⟨k,rfl⟩:=Int.eq_ofNat_of_zero_le h.1;rw[u64_and _ _ h.1 h.2 az az];show((k&&&4294967295:Nat):Int)=_;rw[nat_mask32];omega
theorem oZ(x:Int):IntKind.u32.wrap (x%4294967296)=x%4294967296:=by rw[IntKind.wrap_u32'];omega
theorem o4(x:Int):IntKind.u64.wrap (x%4294967296)=x%4294967296:=uB
attribute[local go_sem]FE oZ o4
def ir(six:Bool)(hi lo:Int):Bool:=if six=true then !(decide (hi=0)&&decide (lo/4294967296=65535))else decide (hi=0)&&decide (lo<4294967296)
def Qe(hi lo:Int):Array Value:=if hi=0∧lo/4294967296=65535 then#[F,U,J (lo%4294967296)]else#[Y,J hi,J lo]
def gq(six:Bool):Int:=if six=true then 128 else 32
theorem I3(x:Int)(w:World):Calls Tryz.prog 234 #[.int .u32 (x%4294967296)] w fun e w'=>e= .returned (.agg #[F,U,J (x%4294967296)])∧Below w.heap.size w w':=by refine(I2 _ w).mono ?_;rintro e w'⟨rfl,rfl⟩;rw[o4];exact⟨rfl,bY⟩
theorem Mv(hi lo:Int)(hl:U6 lo)(w:World):Calls Tryz.prog 233 #[J hi,J lo] w fun e w'=>e= .returned (.agg (Qe hi lo))∧Below w.heap.size w w':=by
 by_cases c:hi=0∧lo/4294967296=65535;·
  have e:Qe hi lo=(#[F,U,J (lo%4294967296)]:AV):=if_pos c;rw[e];obtain⟨c1,c2⟩:=c;clear e;go_enter Tryz.func233,Tryz.ntmps233;go_wp2_with fail;refine en 1 [(34,3,_)] ?_;intro WB HB d0 sWB fHB;simp only[Bx,Bo]at fHB;refine(I3 lo _).mono ?_;rintro e w1⟨rfl,hb⟩;have HB1:=cD hb HB;have d1:=dE d0 hb;have fB1:=HB1.out;simp only[Bx,Bo]at fB1;clear hb fHB;go_wp2;refine bodyPost_ret (v:=.agg #[F,U,J (lo%4294967296)]) (aN (t:=34) Tryz.results233 _ _ _ rfl ?_ ?_ ks rc) rfl ?_;·go_simp
  ·go_simp
  exact⟨rfl,ai d1 aa _⟩
 ·have e:Qe hi lo=(#[Y,J hi,J lo]:AV):=if_neg c;rw[e];clear e;by_cases c1:hi=0;·
   have c2:¬(lo/4294967296=65535):=fun e=>c ⟨c1,e⟩;go_enter Tryz.func233,Tryz.ntmps233;go_wp2;refine bodyPost_ret (v:=.agg #[Y,J hi,J lo]) (aN (t:=34) Tryz.results233 _ _ _ rfl ?_ ?_ ks rc) rfl ?_;·go_simp
   ·go_simp
   exact⟨rfl,bY⟩
  ·go_enter Tryz.func233,Tryz.ntmps233;go_wp2;refine bodyPost_ret (v:=.agg #[Y,J hi,J lo]) (aN (t:=34) Tryz.results233 _ _ _ rfl ?_ ?_ ks rc) rfl ?_;·go_simp
   ·go_simp
   exact⟨rfl,bY⟩
theorem vA{a b:Bool}(h:a=b):Ending.returned a=Ending.returned b:=by rw[h]
theorem kH(six:Bool)(hi lo:Int)(hl:U6 lo)(w:World):Calls Tryz.prog 177 #[.agg #[six,J hi,J lo]] w fun e w'=>e= .returned (.bool (ir six hi lo))∧Below w.heap.size w w':=by
 have hl':=Lib.hid hl;cases six;·
  by_cases c1:0=hi<;>by_cases c2:lo%4294967296=lo;all_goals
   have hr:ir false hi lo=(decide (0=hi)&&decide (lo%4294967296=lo)):=by
    have:=hl.1;unfold ir;simp only[Bool.false_eq_true,if_false];congr 1;·exact decide_eq_decide.2 ⟨fun e=>e.symm,fun e=>e.symm⟩
    ·exact decide_eq_decide.2 aa
   rw[hr];have HV:=Lib.hid (fun W=>I3 lo W);clear hr;have hw:=oZ lo;try rw[c2]at HV hw
   simp only[c1,c2,decide_true,decide_false,Bool.and_true,Bool.and_false,Bool.true_and];go_enter Tryz.func177,Tryz.ntmps177;go_upto_region 3 with(fail);refine jg 1 [(34,3,_)] ?_;intro WB HB d0 sWB fHB;simp only[Bx,Bo]at fHB;have HF:=i8 HB;refine cQ (aw WB) [0,1,2,3,5] 3 ?_;iterate 5 refine pO ?_
   refine pE ?_;refine bl 4 ?_;simp only[PL];go_wp2_with fail;refine(HV.out _).mono ?_;rintro e w4q⟨rfl,hb⟩;have kq4:Below WB.heap.size WB w4q:=aj hb cb cs;have hk4:=aw.mk kq4;have sq4:=kq4.size;have hB4:=Bx.mono kq4 HB.out aF;simp only[Bx,Bo]at hB4;clear hb;go_wp2;refine ba ?_;refine bE [6,7] 0 ?_;iterate 2 refine pO ?_
   refine pE ?_;refine cU ?_;go_wp2;go_ret;exact⟨rfl,d0.trans (kq4.mono aa)⟩
 ·by_cases c:hi=0∧lo/4294967296=65535;·
   have e:Qe hi lo=(#[F,U,J (lo%4294967296)]:AV):=if_pos c;have hr:ir true hi lo=false:=by unfold ir;simp[c]
   obtain⟨rfl,c2⟩:=c;rw[hr];go_enter Tryz.func177,Tryz.ntmps177;go_upto_region 2 with(fail);refine jg 1 [(34,3,_)] ?_;intro WB HB d0 sWB fHB;simp only[Bx,Bo]at fHB;have HF:=i8 HB;refine cQ (aw WB) [0,1,2,3,5] 3 ?_;iterate 5 refine pO ?_
   refine pE ?_;refine bl 4 ?_;simp only[PL];go_wp2_with fail;refine(Mv 0 lo hl _).mono ?_;exact DF
  ·have e:Qe hi lo=(#[Y,J hi,J lo]:AV):=if_neg c;have hr:ir true hi lo=true:=by unfold ir;simp;omega
   rw[hr];go_enter Tryz.func177,Tryz.ntmps177;go_upto_region 2 with(fail);refine jg 1 [(34,3,_)] ?_;intro WB HB d0 sWB fHB;simp only[Bx,Bo]at fHB;have HF:=i8 HB;refine cQ (aw WB) [0,1,2,3,5] 3 ?_;iterate 5 refine pO ?_
   refine pE ?_;refine bl 4 ?_;simp only[PL];go_wp2_with fail;refine(Mv hi lo hl _).mono ?_;exact DF
end
section
attribute[local go_sem high]ah
attribute[local simp high]ah
def Qc(x m c:Int):Int:=bits .or .u64 (bits .and .u64 (x/c) m) (IntKind.u64.wrap (bits .and .u64 x m*c))
def RN(x:Int):Int:=bits .or .u64 (x/4294967296) (IntKind.u64.wrap (x*4294967296))
def Rt(x:Int):Int:=RN (Qc (Qc x 71777214294589695 256) 281470681808895 65536)
def Ru(x:Int):Int:=Rt (Qc (Qc (Qc x 6148914691236517205 2) 3689348814741910323 4) 1085102592571150095 16)
def gy(n:Int):Int:=Ru (IntKind.u64.wrap (IntKind.u64.wrap (2^(min (max n 0) 64).toNat)-1))
theorem tK(x:Int):U6 (IntKind.u64.wrap x):=by rw[IntKind.wrap_u64];unfold U6;omega
theorem Rr(x y:Int):U6 (bits .or .u64 x y):=tK _
theorem Nh{x:Int}(c:Int)(h:U6 x)(hc:1≤c):U6 (x/c):=⟨Int.ediv_nonneg h.1 aa,by have:=Int.ediv_le_self c h.1;have:=h.2;omega⟩
theorem Rb(n:Int):U6 (gy n):=Rr _ _
theorem Lf(x:Int)(hx:U6 x)(w:World):Calls Tryz.prog 317 #[J x] w fun e w'=>e= .returned (J (Rt x))∧w=w':=by have h0:0≤x:=hx.1;go_enter Tryz.func317,Tryz.ntmps317;go_wp2;go_ret;exact⟨rfl,rfl⟩
theorem Ot(x:Int)(hx:U6 x)(w:World):Calls Tryz.prog 299 #[J x] w fun e w'=>e= .returned (J (Ru x))∧w=w':=by have h0:0≤x:=hx.1;go_enter Tryz.func299,Tryz.ntmps299;go_wp2_with(go_at_call 317;refine(Lf _ (Rr _ _) _).mono ?_;rintro e w1⟨rfl,rfl⟩);go_ret;exact⟨rfl,rfl⟩
theorem IY(n:Int)(w:World):Calls Tryz.prog 275 #[n] w fun e w'=>e= .returned (J (gy n))∧w=w':=by have hn:0≤min (max n 0) 64:=aa;have hz:¬(min (max n 0) 64<0):=aa;go_enter Tryz.func275,Tryz.ntmps275;go_wp2_with(go_at_call 299;refine(Ot _ (tK _) _).mono ?_;rintro e w1⟨rfl,rfl⟩);go_ret;exact⟨rfl,rfl⟩
theorem Ey(hi lo n:Int)(hn:0≤n∧n≤128)(w:World):Calls Tryz.prog 276 #[J hi,J lo,n] w fun e w'=>e= .returned (.tuple #[J (bits .and .u64 hi (gy n)),J (bits .and .u64 lo (gy (n-64)))])∧w=w':=by have e1:IntKind.i64.wrap (n-64)=n-64:=eD;go_enter Tryz.func276,Tryz.ntmps276;go_wp2_with(go_at_call 275;refine(IY _ _).mono ?_;rintro e w1⟨rfl,rfl⟩);exact bodyPost_ret (results_tmp2 rfl _ _ _) rfl ⟨rfl,rfl⟩
theorem ki(six:Bool)(hi lo:Int)(w:World):Calls Tryz.prog 179 #[.agg #[six,J hi,J lo]] w fun e w'=>e= .returned (I (gq six))∧Below w.heap.size w w':=by cases six;all_goals go_enter Tryz.func179,Tryz.ntmps179;go_wp2;go_ret;exact⟨rfl,bY⟩
theorem GU(six:Bool)(hi lo:Int)(w:World):Calls Tryz.prog 323 #[.agg #[six,J hi,J lo]] w fun e w'=>e= .returned (I ((if six=true then 32 else 16:Int)))∧Below w.heap.size w w':=by cases six;all_goals go_enter Tryz.func323,Tryz.ntmps323;go_wp2;go_ret;exact⟨rfl,bY⟩
theorem AW(six:Bool)(hi lo:Int)(w:World):Calls Tryz.prog 242 #[.agg #[six,J hi,J lo]] w fun e w'=>e= .returned (I ((if six=true then 1 else 0:Int)))∧Below w.heap.size w w':=by cases six;all_goals go_enter Tryz.func242,Tryz.ntmps242;go_wp2;go_ret;exact⟨rfl,bY⟩
theorem Jl(six:Bool)(hi lo:Int)(w:World):Calls Tryz.prog 174 #[.agg #[six,J hi,J lo]] w fun e w'=>e= .returned (I ((if six=true then 1 else 0:Int)))∧Below w.heap.size w w':=by cases six;all_goals go_enter Tryz.func174,Tryz.ntmps174;go_wp2;go_ret;exact⟨rfl,bY⟩
def Qw(six:Bool)(hi lo n:Int):Array Value:=if six=true then#[Y,J (bits .and .u64 hi (gy n)),J (bits .and .u64 lo (gy (n-64)))]else#[F,J hi,J (bits .and .u64 lo (gy n/4294967296))]
theorem C7(six:Bool)(hi lo n:Int)(hl:U6 lo)(hr:ir six hi lo=true)(h0:0≤n)(h1:n≤gq six)(w:World):Calls Tryz.prog 231 #[.agg #[six,J hi,J lo],n] w fun e w'=>e= .returned (.agg (Qw six hi lo n))∧Below w.heap.size w w':=by
 cases six;·
  simp only[gq,Bool.false_eq_true,if_false]at h1;have ht:0≤gy n:=(Rb n).1;rw[show Qw false hi lo n=(#[F,J hi,J (bits .and .u64 lo (gy n/4294967296))]:AV)from rfl];go_enter Tryz.func231,Tryz.ntmps231;go_wp2_with fail;refine en 2 [(34,3,_),(34,3,_)] ?_;intro WB HB d0 sWB fHB;simp only[Bx,Bo]at fHB;refine(kH false hi lo hl _).mono ?_;rintro e w1⟨rfl,hb⟩;have HB1:=cD hb HB;have d1:=dE d0 hb;have sw1:=hb.size;have fHB1:=HB1.out;simp only[Bx,Bo]at fHB1;clear hb fHB;rw[hr];go_wp2_with fail;refine(ki false hi lo _).mono ?_;rintro e w2⟨rfl,hb⟩;have HB2:=cD hb HB1;have d2:=dE d1 hb;have sw2:=hb.size;have fHB2:=HB2.out;simp only[Bx,Bo]at fHB2;clear hb fHB1;have e1:min (max n 0) (gq false)=n:=by simp[gq];omega
  go_upto_region 5 with(fail);have HF:=i8 HB2;refine OQ 7 (aw w2) [0,1,2] 5 ?_;iterate 3 refine pO ?_
  refine pE ?_;refine qn 3 ?_;simp only[PL];go_wp2_with(go_at_call 275;refine(IY _ _).mono ?_;rintro e w3⟨rfl,rfl⟩);refine ba ?_;refine BF [4,5,6] 1 ?_;iterate 3 refine pO ?_
  refine pE ?_;refine Fj 7 ?_;simp only[PL];go_wp2;refine am trivial ?_;refine Fi ?_;go_wp2;refine bodyPost_ret (v:=.agg #[F,J hi,J (bits .and .u64 lo (gy n/4294967296))]) (aN (t:=34) Tryz.results231 _ _ _ rfl ?_ ?_ ks rc) rfl ?_;·go_simp
  ·go_simp
  exact⟨rfl,by repeat'(first|exact d2|(with_reducible apply Below.drew)|(with_reducible refine ai ?_ ?_ _)|omega)⟩
 ·simp only[gq,if_true]at h1;rw[show Qw true hi lo n=(#[Y,J (bits .and .u64 hi (gy n)),J (bits .and .u64 lo (gy (n-64)))]:AV)from rfl];go_enter Tryz.func231,Tryz.ntmps231;go_wp2_with fail;refine en 2 [(34,3,_),(34,3,_)] ?_;intro WB HB d0 sWB fHB;simp only[Bx,Bo]at fHB;refine(kH true hi lo hl _).mono ?_;rintro e w1⟨rfl,hb⟩;have HB1:=cD hb HB;have d1:=dE d0 hb;have sw1:=hb.size;have fHB1:=HB1.out;simp only[Bx,Bo]at fHB1;clear hb fHB;rw[hr];go_wp2_with fail;refine(ki true hi lo _).mono ?_;rintro e w2⟨rfl,hb⟩;have HB2:=cD hb HB1;have d2:=dE d1 hb;have sw2:=hb.size;have fHB2:=HB2.out;simp only[Bx,Bo]at fHB2;clear hb fHB1;have e1:min (max n 0) (gq true)=n:=by simp[gq];omega
  go_wp2_with(go_at_call 276;refine(Ey _ _ n aa _).mono ?_;rintro e w3⟨rfl,rfl⟩);refine bodyPost_ret (v:=.agg #[Y,J (bits .and .u64 hi (gy n)),J (bits .and .u64 lo (gy (n-64)))]) (aN (t:=34) Tryz.results231 _ _ _ rfl ?_ ?_ ks rc) rfl ?_;·go_simp
  ·go_simp
  exact⟨rfl,L5⟩
end
section
attribute[local go_sem high]ah
attribute[local simp high]ah
theorem zZ{p:Prop}(h:p:=by
 go_wp2_with fail;have HB:=Lib.hid (dY:Bx ((w.alloc (.cells (#[six,J hi,J lo]) 34)).alloc (.cells (#[F,U,U,Z]) 39)) w.heap.size [(34,3,#[six,J hi,J lo]),(39,4,#[F,U,U,Z])]);have d0:Below w.heap.size w ((w.alloc (.cells (#[six,J hi,J lo]) 34)).alloc (.cells (#[F,U,U,Z]) 39)):=bY;have sWB:w.heap.size+2≤((w.alloc (.cells (#[six,J hi,J lo]) 34)).alloc (.cells (#[F,U,U,Z]) 39)).heap.size:=ay;generalize((w.alloc (.cells (#[six,J hi,J lo]) 34)).alloc (.cells (#[F,U,U,Z]) 39))=WB at*;have fHB:=HB.out;simp only[Bx,Bo]at fHB;refine(kH six hi lo hl _).mono ?_;rintro e w1⟨rfl,hb⟩;have HB1:=cD hb HB;have d1:=dE d0 hb;have sw1:=hb.size;have fHB1:=HB1.out;simp only[Bx,Bo]at fHB1;clear hb fHB;rw[hr];go_wp2;refine bodyPost_ret (v:=.tuple #[.agg #[F,U,U,Z],F]) (ci (t:=39) Tryz.results173 _ _ _ rfl ?_ ?_ gH lm) rfl ?_;·go_simp
 ·go_simp
 exact⟨rfl,by repeat'(first|exact d1|(with_reducible refine ai ?_ ?_ _)|omega)⟩):p:=h
def nJ(six:Bool)(lo n:Int):Int:=if six=true then bits .and .u64 lo (gy (n-64))else bits .and .u64 lo (gy n/4294967296)
def pm(six:Bool)(hi n:Int):Int:=if six=true then bits .and .u64 hi (gy n)else hi
theorem Hp(six:Bool)(hi lo n:Int):Qw six hi lo n=(#[six,J (pm six hi n),J (nJ six lo n)]:AV):=by cases six<;>rfl
def Dc(six:Bool)(hi lo b:Int):Prop:=ir six hi lo=true∧0≤b∧b≤gq six
theorem qM(six:Bool)(hi lo n:Int)(hl:U6 lo)(h:Dc six hi lo n)(w:World):Calls Tryz.prog 173 #[.agg #[six,J hi,J lo],n] w fun e w'=>e= .returned (.tuple #[.agg #[six,J (pm six hi n),J (nJ six lo n),n],Y])∧Below w.heap.size w w':=by
 obtain⟨hr,h0,h1⟩:=h;have hm:=Hp six hi lo n;have n0:¬(n<0):=aa;have n1:¬(gq six<n):=aa;go_enter Tryz.func173,Tryz.ntmps173;go_wp2_with fail;refine en 2 [(34,3,_),(39,4,_)] ?_;intro WB HB d0 sWB fHB;simp only[Bx,Bo]at fHB;refine(kH six hi lo hl _).mono ?_;rintro e w1⟨rfl,hb⟩;have HB1:=cD hb HB;have d1:=dE d0 hb;have sw1:=hb.size;have fHB1:=HB1.out;simp only[Bx,Bo]at fHB1;clear hb fHB;rw[hr];go_wp2_with fail;refine(ki six hi lo _).mono ?_;rintro e w2⟨rfl,hb⟩;have HB2:=cD hb HB1;have d2:=dE d1 hb;have sw2:=hb.size;have fHB2:=HB2.out;simp only[Bx,Bo]at fHB2;clear hb fHB1;go_wp2_with fail;refine(C7 six hi lo n hl hr h0 h1 _).mono ?_;rintro e w3⟨rfl,hb⟩;have HB3:=cD hb HB2;have d3:=dE d2 hb;have sw3:=hb.size;have fHB3:=HB3.out;simp only[Bx,Bo]at fHB3;clear hb fHB2;rw[hm];clear hm;go_wp2;refine bodyPost_ret (v:=.tuple #[.agg #[six,J (pm six hi n),J (nJ six lo n),n],Y]) (ci (t:=39) Tryz.results173 _ _ _ rfl ?_ ?_ gH lm) rfl ?_;·go_simp
 ·go_simp
 exact⟨rfl,by repeat'(first|exact d3|(with_reducible refine ai ?_ ?_ _)|omega)⟩
theorem qN(six:Bool)(hi lo n:Int)(hl:U6 lo)(h:¬Dc six hi lo n)(w:World):Calls Tryz.prog 173 #[.agg #[six,J hi,J lo],n] w fun e w'=>e= .returned (.tuple #[.agg #[F,U,U,Z],F])∧Below w.heap.size w w':=by
 unfold Dc at h;cases hr:ir six hi lo with
  |false=>go_enter Tryz.func173,Tryz.ntmps173;exact zZ
  |true=>
   by_cases n0:n<0;·go_enter Tryz.func173,Tryz.ntmps173;exact zZ
   ·have n1:gq six<n:=by rw[hr]at h;simp at h;omega
    go_enter Tryz.func173,Tryz.ntmps173;go_wp2_with fail;refine en 2 [(34,3,_),(39,4,_)] ?_;intro WB HB d0 sWB fHB;simp only[Bx,Bo]at fHB;refine(kH six hi lo hl _).mono ?_;rintro e w1⟨rfl,hb⟩;have HB1:=cD hb HB;have d1:=dE d0 hb;have sw1:=hb.size;have fHB1:=HB1.out;simp only[Bx,Bo]at fHB1;clear hb fHB;rw[hr];go_wp2_with fail;refine(ki six hi lo _).mono ?_;rintro e w2⟨rfl,hb⟩;have HB2:=cD hb HB1;have d2:=dE d1 hb;have sw2:=hb.size;have fHB2:=HB2.out;simp only[Bx,Bo]at fHB2;clear hb fHB1;go_wp2;refine bodyPost_ret (v:=.tuple #[.agg #[F,U,U,Z],F]) (ci (t:=39) Tryz.results173 _ _ _ rfl ?_ ?_ gH lm) rfl ?_;·go_simp
    ·go_simp
    exact⟨rfl,L5⟩
end
section
attribute[local go_sem high]ah
attribute[local simp high]ah
instance (six:Bool)(hi lo b:Int):Decidable (Dc six hi lo b):=by unfold Dc;infer_instance
theorem jZ{p:Prop}(h:PQ p:=by have kq3:Below WB.heap.size WB w3q:=aj hb cb cs;have hk3:=aw.mk kq3;have hB3:=Bx.mono kq3 HB.out aF;exact pq (And.intro kq3 (And.intro hk3 hB3))):p:=h
theorem tC{p:Prop}(h:p:=by
 refine bl 8 ?_;simp only[PL];go_wp2;refine ba ?_;refine bE [9] 0 ?_;refine pO ?_;refine pE ?_;refine cU ?_;go_wp2_with fail;go_wp2;refine bodyPost_ret (v:=.agg #[six,J (pm six hi gb),J (nJ six lo gb),gb]) (aN (t:=39) Tryz.results305 _ _ _ rfl ?_ ?_ gH lm) rfl ?_;·go_simp
 ·go_simp
 exact⟨rfl,Jz⟩):p:=h
theorem tD{p:Prop}(h:p:=by
 refine bl 8 ?_;simp only[PL];go_wp2;refine ba ?_;refine bE [9] 0 ?_;refine pO ?_;refine pE ?_;refine cU ?_;go_wp2_with fail;go_wp2;refine bodyPost_ret (v:=.agg #[F,U,U,Z]) (aN (t:=39) Tryz.results305 _ _ _ rfl ?_ ?_ gH lm) rfl ?_;·go_simp
 ·go_simp
 exact⟨rfl,Jz⟩):p:=h
def Fg(six:Bool)(hi lo b:Int):Bool:=decide (Dc six hi lo b)&&(decide (pm six hi b=hi)&&decide (nJ six lo b=lo))
theorem wM(six:Bool)(hi lo b:Int)(hl:U6 lo)(w:World):Calls Tryz.prog 115 #[.agg #[six,J hi,J lo,b]] w fun e w'=>e= .returned (.bool (Fg six hi lo b))∧Below w.heap.size w w':=by
 unfold Fg;by_cases h:Dc six hi lo b;·
  have HM:=Lib.hid (fun(W:World)=>qM six hi lo b hl h W);have hd:decide (Dc six hi lo b)=true:=decide_eq_true h;by_cases c1:pm six hi b=hi<;>by_cases c2:nJ six lo b=lo;all_goals
   simp only[hd,c1,c2,decide_true,decide_false,Bool.and_true,Bool.and_false,Bool.true_and];clear h hd;try rw[c1]at HM
   try rw[c2]at HM
   go_enter Tryz.func115,Tryz.ntmps115;go_wp2_with fail;have HB:=Lib.hid (dY:Bx (w.alloc (.cells (#[six,J hi,J lo,b]) 39)) w.heap.size [(39,4,#[six,J hi,J lo,b])]);have d0:Below w.heap.size w (w.alloc (.cells (#[six,J hi,J lo,b]) 39)):=bY;have sWB:w.heap.size+1≤(w.alloc (.cells (#[six,J hi,J lo,b]) 39)).heap.size:=ay;generalize(w.alloc (.cells (#[six,J hi,J lo,b]) 39))=WB at*;have fHB:=HB.out;simp only[Bx,Bo]at fHB;refine(HM.out _).mono ?_;rintro e w1⟨rfl,hb⟩;have HB1:=cD hb HB;have d1:=dE d0 hb;have sw1:=hb.size;have fHB1:=HB1.out;simp only[Bx,Bo]at fHB1;clear hb fHB;go_wp2;go_ret;exact⟨rfl,Pv⟩
 ·have HM:=Lib.hid (fun(W:World)=>qN six hi lo b hl h W);have hd:decide (Dc six hi lo b)=false:=decide_eq_false h;simp only[hd,Bool.false_and];clear h hd;go_enter Tryz.func115,Tryz.ntmps115;go_wp2_with fail;refine en 1 [(39,4,_)] ?_;intro WB HB d0 sWB fHB;simp only[Bx,Bo]at fHB;refine(HM.out _).mono ?_;rintro e w1⟨rfl,hb⟩;have HB1:=cD hb HB;have d1:=dE d0 hb;have sw1:=hb.size;have fHB1:=HB1.out;simp only[Bx,Bo]at fHB1;clear hb fHB;go_wp2;go_ret;exact⟨rfl,Pv⟩
def yu(six:Bool)(hi lo:Int):Array Value:=if ir six hi lo=true then#[six,J (pm six hi (if six=true then 32 else 16:Int)),J (nJ six lo (if six=true then 32 else 16:Int)),I (if six=true then 32 else 16:Int)]else#[F,U,U,Z]
theorem NF(six:Bool)(hi lo:Int)(hl:U6 lo)(w:World):Calls Tryz.prog 305 #[.agg #[six,J hi,J lo]] w fun e w'=>e= .returned (.agg (yu six hi lo))∧Below w.heap.size w w':=by
 unfold yu;have HG:=Lib.hid (fun(W:World)=>GU six hi lo W);by_cases h:Dc six hi lo (if six=true then 32 else 16:Int);·
  have HM:=Lib.hid (fun(W:World)=>qM six hi lo (if six=true then 32 else 16:Int) hl h W);rw[if_pos h.1];clear h;generalize(if six=true then 32 else 16:Int)=gb at*;go_enter Tryz.func305,Tryz.ntmps305;go_upto_region 1 with(fail);refine jg 2 [(34,3,_),(39,4,_)] ?_;intro WB HB d0 sWB fHB;simp only[Bx,Bo]at fHB;have HF:=i8 HB;refine cQ (aw WB) [0,1] 8 ?_;iterate 2 refine pO ?_
  refine pE ?_;refine xo 2 7 ?_ ?_;·
   simp only[PL];go_wp2_with fail;refine(HG.out _).mono ?_;rintro e w2q⟨rfl,hb⟩;have kq2:Below WB.heap.size WB w2q:=aj hb cb cs;have hk2:=aw.mk kq2;have hB2:=Bx.mono kq2 HB.out aF;simp only[Bx,Bo]at hB2;have sq2:=kq2.size;clear hb;go_wp2;refine ba ?_;refine xo 3 7 ?_ ?_;·
    simp only[PL];go_wp2_with fail;refine(HM.out _).mono ?_;rintro e w3q⟨rfl,hb⟩;obtain⟨kq3,hk3,hB3⟩:=jZ;simp only[Bx,Bo]at hB3;have sq3:=kq3.size;clear hb;go_wp2;refine ba ?_;refine bE [4,5,6] 3 ?_;iterate 3 refine pO ?_
    refine pE ?_;refine bl 7 ?_;simp only[PL];go_wp2;refine ba ?_;exact tC
   ·simp only[PL];go_wp2;refine ba ?_;refine bl 3 ?_;simp only[PL];go_wp2_with fail;refine(HM.out _).mono ?_;rintro e w3q⟨rfl,hb⟩;obtain⟨kq3,hk3,hB3⟩:=jZ;simp only[Bx,Bo]at hB3;have hR3:=Bx.mono (g:=w2q.heap.size) (L:=[(39,4,#[F,U,U,Z])]) hb dY ay;have hR3k:=hR3;simp only[Bx,Bo]at hR3;have sr2:w.heap.size+2≤WB.heap.size:=sWB;have sq3:=kq3.size;clear hb;go_wp2;refine ba ?_;refine bE [4,5,6] 2 ?_;iterate 3 refine pO ?_
    refine pE ?_;exact tC
  ·simp only[PL];go_wp2;refine ba ?_;refine bl 2 ?_;simp only[PL];go_wp2_with fail;refine(HG.out _).mono ?_;rintro e w2q⟨rfl,hb⟩;have kq2:Below WB.heap.size WB w2q:=aj hb cb cs;have hk2:=aw.mk kq2;have hB2:=Bx.mono kq2 HB.out aF;simp only[Bx,Bo]at hB2;have hR2:=Bx.mono (g:=WB.heap.size) (L:=[(39,4,#[F,U,U,Z])]) hb dY ay;have hR2k:=hR2;simp only[Bx,Bo]at hR2;have sq2:=kq2.size;clear hb;go_wp2;refine ba ?_;refine bl 3 ?_;simp only[PL];go_wp2_with fail;refine(HM.out _).mono ?_;rintro e w3q⟨rfl,hb⟩;obtain⟨kq3,hk3,hB3⟩:=jZ;simp only[Bx,Bo]at hB3;have hR3:=Bx.mono (g:=WB.heap.size) (L:=[(39,4,#[F,U,U,Z])]) hb hR2k aF;have hR3k:=hR3;simp only[Bx,Bo]at hR3;have sr2:w.heap.size+2≤WB.heap.size:=sWB;have sq3:=kq3.size;clear hb;go_wp2;refine ba ?_;refine bE [4,5,6] 2 ?_;iterate 3 refine pO ?_
   refine pE ?_;exact tC
 ·have HM:=Lib.hid (fun(W:World)=>qN six hi lo (if six=true then 32 else 16:Int) hl h W);have hn:¬(ir six hi lo=true):=fun e=>h ⟨e,by first|(unfold gq;split<;>omega)|(split<;>omega),by first|(unfold gq;split<;>omega)|omega⟩;rw[if_neg hn];clear h hn;generalize(if six=true then 32 else 16:Int)=gb at*;go_enter Tryz.func305,Tryz.ntmps305;go_upto_region 1 with(fail);refine jg 2 [(34,3,_),(39,4,_)] ?_;intro WB HB d0 sWB fHB;simp only[Bx,Bo]at fHB;have HF:=i8 HB;refine cQ (aw WB) [0,1] 8 ?_;iterate 2 refine pO ?_
  refine pE ?_;refine xo 2 7 ?_ ?_;·
   simp only[PL];go_wp2_with fail;refine(HG.out _).mono ?_;rintro e w2q⟨rfl,hb⟩;have kq2:Below WB.heap.size WB w2q:=aj hb cb cs;have hk2:=aw.mk kq2;have hB2:=Bx.mono kq2 HB.out aF;simp only[Bx,Bo]at hB2;have sq2:=kq2.size;clear hb;go_wp2;refine ba ?_;refine xo 3 7 ?_ ?_;·
    simp only[PL];go_wp2_with fail;refine(HM.out _).mono ?_;rintro e w3q⟨rfl,hb⟩;obtain⟨kq3,hk3,hB3⟩:=jZ;simp only[Bx,Bo]at hB3;have sq3:=kq3.size;clear hb;go_wp2;refine ba ?_;refine bE [4,5,6] 3 ?_;iterate 3 refine pO ?_
    refine pE ?_;refine bl 7 ?_;simp only[PL];go_wp2;refine ba ?_;exact tD
   ·simp only[PL];go_wp2;refine ba ?_;refine bl 3 ?_;simp only[PL];go_wp2_with fail;refine(HM.out _).mono ?_;rintro e w3q⟨rfl,hb⟩;obtain⟨kq3,hk3,hB3⟩:=jZ;simp only[Bx,Bo]at hB3;have hR3:=Bx.mono (g:=w2q.heap.size) (L:=[(39,4,#[F,U,U,Z])]) hb dY ay;have hR3k:=hR3;simp only[Bx,Bo]at hR3;have sr2:w.heap.size+2≤WB.heap.size:=sWB;have sq3:=kq3.size;clear hb;go_wp2;refine ba ?_;refine bE [4,5,6] 2 ?_;iterate 3 refine pO ?_
    refine pE ?_;exact tD
  ·simp only[PL];go_wp2;refine ba ?_;refine bl 2 ?_;simp only[PL];go_wp2_with fail;refine(HG.out _).mono ?_;rintro e w2q⟨rfl,hb⟩;have kq2:Below WB.heap.size WB w2q:=aj hb cb cs;have hk2:=aw.mk kq2;have hB2:=Bx.mono kq2 HB.out aF;simp only[Bx,Bo]at hB2;have hR2:=Bx.mono (g:=WB.heap.size) (L:=[(39,4,#[F,U,U,Z])]) hb dY ay;have hR2k:=hR2;simp only[Bx,Bo]at hR2;have sq2:=kq2.size;clear hb;go_wp2;refine ba ?_;refine bl 3 ?_;simp only[PL];go_wp2_with fail;refine(HM.out _).mono ?_;rintro e w3q⟨rfl,hb⟩;obtain⟨kq3,hk3,hB3⟩:=jZ;simp only[Bx,Bo]at hB3;have hR3:=Bx.mono (g:=WB.heap.size) (L:=[(39,4,#[F,U,U,Z])]) hb hR2k aF;have hR3k:=hR3;simp only[Bx,Bo]at hR3;have sr2:w.heap.size+2≤WB.heap.size:=sWB;have sq3:=kq3.size;clear hb;go_wp2;refine ba ?_;refine bE [4,5,6] 2 ?_;iterate 3 refine pO ?_
   refine pE ?_;exact tD
end
section
attribute[local go_sem high]ah
attribute[local simp high]ah
theorem z5{p:Prop}(h:p:=by
 intro WB HB d0 sWB fHB;simp only[Bx,Bo]at fHB;have HF:=i8 HB;refine cQ (aw WB) [0,1,2,3,5,6,7,8] 5 ?_;iterate 8 refine pO ?_
 refine pE ?_;refine bl 4 ?_;simp only[PL];go_wp2_with fail;refine(JT s1 h1 l1 s2 h2 l2 _).mono ?_;rintro e w4q⟨rfl,hb⟩;have kq4:Below WB.heap.size WB w4q:=aj hb cb cs;have hk4:=aw.mk kq4;have sq4:=kq4.size;have hB4:=Bx.mono kq4 HB.out aF;simp only[Bx,Bo]at hB4;clear hb;go_wp2;refine ba ?_;refine bl 9 ?_;simp only[PL];go_wp2_with(go_at_call 118;refine(jd _ _ _).mono ?_;rintro e w9q⟨rfl,rfl⟩);refine ba ?_;refine bl 10 ?_;simp only[PL];go_wp2;refine ba ?_;refine bl 11 ?_;simp only[PL];go_wp2_with(go_at_call 116;refine(lM [mP s1 h1 l1 s2 h2 l2,fh b1 b2] _ _ _ rfl ay dq dq).mono ?_;rintro e w9⟨rfl,rfl⟩);refine ba ?_;refine bE [12] 0 ?_;refine pO ?_;refine pE ?_;refine cU ?_;go_wp2;go_ret;exact⟨rfl,d0.trans ((cb:Below WB.heap.size WB _).mono aa)⟩):p:=h
theorem z6{p:Prop}(h:p:=by go_enter Tryz.func119,Tryz.ntmps119;go_wp2_with fail;have HB:=Lib.hid (dY:Bx (w.alloc (.cells (#[six,J hi,J lo,p]) 36)) w.heap.size [(36,4,#[six,J hi,J lo,p])]);have d0:Below w.heap.size w (w.alloc (.cells (#[six,J hi,J lo,p]) 36)):=bY;have sWB:w.heap.size+1≤(w.alloc (.cells (#[six,J hi,J lo,p]) 36)).heap.size:=ay;generalize(w.alloc (.cells (#[six,J hi,J lo,p]) 36))=WB at*;have fHB:=HB.out;simp only[Bx,Bo]at fHB;refine(HR.out _).mono ?_;rintro e w1⟨rfl,hb⟩;have HB1:=cD hb HB;have d1:=dE d0 hb;have sw1:=hb.size;have fHB1:=HB1.out;simp only[Bx,Bo]at fHB1;clear hb fHB;go_wp2;go_ret;exact⟨rfl,d1⟩):p:=h
def i7(six:Bool):Int:=if six=true then 1 else 0
def mP(s1:Bool)(h1 l1:Int)(s2:Bool)(h2 l2:Int):Int:=qD [fh (i7 s1) (i7 s2),fh h1 h2,fh l1 l2]
def hJ(s1:Bool)(h1 l1 b1:Int)(s2:Bool)(h2 l2 b2:Int):Int:=qD [mP s1 h1 l1 s2 h2 l2,fh b1 b2]
theorem JT(s1:Bool)(h1 l1:Int)(s2:Bool)(h2 l2:Int)(w:World):Calls Tryz.prog 117 #[.agg #[s1,J h1,J l1],.agg #[s2,J h2,J l2]] w fun e w'=>e= .returned (I (mP s1 h1 l1 s2 h2 l2))∧Below w.heap.size w w':=by
 have HFy:=Lib.hid (fun(s:Bool)(h l:Int)(W:World)=>show Calls Tryz.prog 174 #[.agg #[s,J h,J l]] W fun e w'=>e= .returned (I (i7 s))∧Below W.heap.size W w' from Jl s h l W);go_enter Tryz.func117,Tryz.ntmps117;go_upto_region 1 with(fail);refine jg 2 [(34,3,_),(34,3,_)] ?_;intro WB HB d0 sWB fHB;simp only[Bx,Bo]at fHB;have HF:=i8 HB;refine cQ (aw WB) [0,2,5,6,7,8,10,11,12,13] 8 ?_;iterate 10 refine pO ?_
 refine pE ?_;refine bl 1 ?_;simp only[PL];go_wp2_with fail;refine(HFy.out s1 h1 l1 _).mono ?_;rintro e w1q⟨rfl,hb⟩;have kq1:Below WB.heap.size WB w1q:=aj hb cb cs;have hk1:=aw.mk kq1;have sq1:=kq1.size;have hB1:=Bx.mono kq1 HB.out aF;simp only[Bx,Bo]at hB1;clear hb;go_wp2;refine ba ?_;refine bl 3 ?_;simp only[PL];go_wp2_with fail;refine(HFy.out s2 h2 l2 _).mono ?_;rintro e w3q⟨rfl,hb⟩;have kq3:Below WB.heap.size WB w3q:=aj hb cb cs;have hk3:=aw.mk kq3;have sq3:=kq3.size;have hB3:=Bx.mono kq3 HB.out aF;simp only[Bx,Bo]at hB3;clear hb;go_wp2;refine ba ?_;refine bl 4 ?_;simp only[PL];go_wp2_with(go_at_call 118;refine(jd _ _ _).mono ?_;rintro e w4q⟨rfl,rfl⟩);refine ba ?_;refine bl 9 ?_;simp only[PL];go_wp2_with(go_at_call 175;refine(lX _ _ _).mono ?_;rintro e w9q⟨rfl,rfl⟩);refine ba ?_;refine bl 14 ?_;simp only[PL];go_wp2_with(go_at_call 175;refine(lX _ _ _).mono ?_;rintro e w14q⟨rfl,rfl⟩);refine ba ?_;refine bl 15 ?_;simp only[PL];go_wp2;refine ba ?_;refine bl 16 ?_;simp only[PL];go_wp2_with(go_at_call 116;refine(lM [fh (i7 s1) (i7 s2),fh h1 h2,fh l1 l2] _ _ _ rfl ay dq dq).mono ?_;rintro e w9⟨rfl,rfl⟩);refine ba ?_;refine bE [17] 0 ?_;refine pO ?_;refine pE ?_;refine cU ?_;go_wp2;go_ret;exact⟨rfl,d0.trans ((cb:Below WB.heap.size WB _).mono aa)⟩
theorem JU(s1:Bool)(h1 l1 b1:Int)(s2:Bool)(h2 l2 b2:Int)(w:World):Calls Tryz.prog 73 #[.agg #[s1,J h1,J l1,b1],.agg #[s2,J h2,J l2,b2]] w fun e w'=>e= .returned (I (hJ s1 h1 l1 b1 s2 h2 l2 b2))∧Below w.heap.size w w':=by go_enter Tryz.func73,Tryz.ntmps73;go_upto_region 1 with(fail);refine jg 2 [(39,4,_),(39,4,_)] ?_;exact z5
theorem wl(s1:Bool)(h1 l1 b1:Int)(s2:Bool)(h2 l2 b2:Int)(w:World):Calls Tryz.prog 75 #[.agg #[s1,J h1,J l1,b1],.agg #[s2,J h2,J l2,b2]] w fun e w'=>e= .returned (I (hJ s1 h1 l1 b1 s2 h2 l2 b2))∧Below w.heap.size w w':=by go_enter Tryz.func75,Tryz.ntmps75;go_upto_region 1 with(fail);refine jg 2 [(36,4,_),(36,4,_)] ?_;exact z5
def Jd(six:Bool)(hi lo p:Int):Bool:=ir six hi lo&&(decide (1≤p)&&decide (p≤65535))
theorem GD(six:Bool)(hi lo p:Int)(hl:U6 lo)(w:World):Calls Tryz.prog 119 #[.agg #[six,J hi,J lo,p]] w fun e w'=>e= .returned (.bool (Jd six hi lo p))∧Below w.heap.size w w':=by
 unfold Jd;have HR:=Lib.hid (fun(W:World)=>kH six hi lo hl W);cases hr:ir six hi lo;·rw[hr]at HR;simp only[Bool.false_and];clear hr;exact z6
 ·rw[hr]at HR;simp only[Bool.true_and];clear hr;by_cases p1:1≤p;·have q1:(1≤p)=True:=eq_true p1;simp only[q1,decide_true,Bool.true_and];clear p1;exact z6
  ·have q1:(1≤p)=False:=eq_false p1;simp only[q1,decide_false,Bool.false_and];clear p1;go_enter Tryz.func119,Tryz.ntmps119;go_wp2_with fail;refine en 1 [(36,4,_)] ?_;intro WB HB d0 sWB fHB;simp only[Bx,Bo]at fHB;refine(HR.out _).mono ?_;rintro e w1⟨rfl,hb⟩;have HB1:=cD hb HB;have d1:=dE d0 hb;have sw1:=hb.size;have fHB1:=HB1.out;simp only[Bx,Bo]at fHB1;clear hb fHB;go_wp2;go_ret;exact⟨rfl,d1⟩
end
end Go.Proofs.YtnncjbkepakgpaaGreat
