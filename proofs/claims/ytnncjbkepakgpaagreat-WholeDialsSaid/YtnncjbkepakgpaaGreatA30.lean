/- STATES THAT MAY BE: bans, book, table. STATES THAT MAY BE, by the model. MASKS AND BITS. -/
import Derived.Test.YtnncjbkepakgpaaGreatA29
namespace Go.Proofs.YtnncjbkepakgpaaGreat
open Go.RowKit Qv
set_option linter.unusedVariables false
set_option linter.unusedSimpArgs false
set_option maxRecDepth 100000
set_option maxHeartbeats 1000000
section
attribute[local go_sem high]ah
attribute[local simp high]ah
theorem wS{p:Prop}(h:PQ p:=by have hw:IntKind.i64.wrap (((q+1:Nat):Int)-1)=(q:Int):=eD;have hw':IntKind.i64.wrap (q:Int)=(q:Int):=eD;have hq0:0≤(q:Int):=aa;have hqn:(q:Int)<(n:Int):=aa;have hql:q<P.length:=aa;exact pq (And.intro hw (And.intro hw' (And.intro hq0 (And.intro hqn hql))))):p:=h
theorem DC{p:Prop}(h:p:=by
 have hr:¬(r≥0):=aa;have hr2:decide ((0:Int)≤r)=false:=decide_eq_false aa;clear hel hsub hx hz hql;have HF:=Lib.hid (fun(W:World)(hS:(aw WE) W)=>And.intro (Bx.mono hS.out HE1.out aF) (HEz.out W (hK.out.trans ((kE.trans (hS.out.mono kE.size)).mono hK.out.size))));refine cQ (aw WE) [0] 18 ?_;refine pO ?_;refine pE ?_;refine bl 1 ?_;simp only[PL];go_wp2_with fail;refine(HI.out _).mono ?_;rintro e w1⟨rfl,hb⟩;have k1:Below WE.heap.size WE w1:=aj hb cb cs;have hk1:=aw.mk k1;clear hb;go_wp2;refine ba ?_;refine bE [2,3] 15 ?_;iterate 2 refine pO ?_
 refine pE ?_;refine gY 4 ?_;refine gY 5 ?_;refine gY 6 ?_;refine gY 7 ?_;refine gY 8 ?_;refine gY 9 ?_;refine gY 10 ?_;refine gY 11 ?_;refine gY 12 ?_;refine gY 13 ?_;refine gY 14 ?_;refine bl 15 ?_;simp only[PL];go_wp2_with fail;refine(HC.out _).mono ?_;rintro e w2⟨rfl,hb⟩;have k2:Below WE.heap.size WE w2:=k1.trans (hb.mono k1.size);have hk2:=aw.mk k2;clear hb;go_wp2;refine ba ?_;refine gY 16 ?_;refine gY 17 ?_;refine bE [18] 0 ?_;refine pO ?_;refine pE ?_;refine cU ?_;go_wp2_with fail;go_roundg gk';case measure=>omega
 case rel=>exact⟨q+1+1,bD,aa,⟨hK.out.trans ((kE.trans (k2.mono kE.size)).mono hK.out.size)⟩⟩):p:=h
theorem DE{p:Prop}(h:p:=by
 have hk1:¬(((0:Nat):Int)>0):=aa;have hk2:decide ((0:Int)<((0:Nat):Int))=false:=rfl;have HF:=i8 HE1;refine cQ (aw WE) [0] 18 ?_;refine pO ?_;refine pE ?_;refine bl 1 ?_;simp only[PL];go_wp2_with fail;refine(HI.out _).mono ?_;rintro e w1⟨rfl,hb⟩;have k1:Below WE.heap.size WE w1:=aj hb cb cs;have hk1:=aw.mk k1;clear hb;go_wp2;refine ba ?_;refine bE [2,3] 15 ?_;iterate 2 refine pO ?_
 refine pE ?_;refine gY 4 ?_;refine gY 5 ?_;refine gY 6 ?_;refine gN 7 ?_;refine gN 8 ?_;refine gN 9 ?_;refine gN 10 ?_;refine gN 11 ?_;refine gN 12 ?_;refine gN 13 ?_;refine gN 14 ?_;refine gN 15 ?_;refine gN 16 ?_;refine gY 17 ?_;refine bE [18] 0 ?_;refine pO ?_;refine pE ?_;refine cU ?_;go_wp2_with fail;go_roundg gk';case measure=>omega
 case rel=>exact⟨0+1,bD,aa,⟨hK.out.trans ((kE.trans (k1.mono kE.size)).mono hK.out.size)⟩⟩):p:=h
def Rd(y:Nt×Int):Prop:=U6 y.1.l∧Fg y.1.s y.1.h y.1.l y.1.b=true∧1≤y.2∧y.2≤1099511627776
theorem Jt(y:Nt×Int)(h:Rd y)(w:World):Calls Tryz.prog 72 #[.agg (di y)] w fun e w'=>e= .returned Y∧Below w.heap.size w w':=by obtain⟨h0,h1,h2,h3⟩:=h;have HR:=fun W=>wM y.1.s y.1.h y.1.l y.1.b h0 W;rw[h1]at HR;replace HR:=Lib.hid HR;have h2':y.2≥1:=h2;unfold di;go_enter Tryz.func72,Tryz.ntmps72;go_wp2_with fail;refine en 1 [(143,5,_)] ?_;intro WB HB d0 sWB fHB;simp only[Bx,Bo]at fHB;refine(HR.out _).mono ?_;rintro e w1⟨rfl,hb⟩;have HB1:=cD hb HB;have d1:=dE d0 hb;have fB1:=HB1.out;simp only[Bx,Bo]at fB1;clear hb fHB;go_wp2;go_ret;exact⟨rfl,d1⟩
theorem E7{n m:Int}(h:0≤n∧n≤m)(w:World):Calls Tryz.prog 121 #[n,m] w fun e w'=>e= .returned Y∧w'=w:=by have h1:n≥0:=h.1;have h2:=h.2;go_enter Tryz.func121,Tryz.ntmps121;go_wp2;go_ret;exact⟨rfl,rfl⟩
theorem Ib(y:Pe)(h:OI y)(w:World):Calls Tryz.prog 76 #[.agg (eT y)] w fun e w'=>e= .returned Y∧Below w.heap.size w w':=by obtain⟨⟨h0,h1,h2⟩,ha,hc,hf,hb',hd⟩:=h;have HR:=fun W=>GD y.e.six y.e.hi y.e.lo y.e.port h1 W;rw[h2]at HR;replace HR:=Lib.hid HR;unfold eT;go_enter Tryz.func76,Tryz.ntmps76;go_wp2_with fail;refine en 1 [(75,10,_)] ?_;intro WB HB d0 sWB fHB;simp only[Bx,Bo]at fHB;refine(HR.out _).mono ?_;rintro e w1⟨rfl,hb⟩;have HB1:=cD hb HB;have d1:=dE d0 hb;have fB1:=HB1.out;simp only[Bx,Bo]at fB1;clear hb fHB;go_wp2_with(go_at_call 121;refine(E7 et _).mono ?_;rintro e wq⟨rfl,rfl⟩);go_ret;exact⟨rfl,d1⟩
theorem LA(z y:Pe)(w:World):Calls Tryz.prog 77 #[.agg (eT z),.agg (eT y)] w fun e w'=>e= .returned (I (hJ z.e.six z.e.hi z.e.lo z.e.port y.e.six y.e.hi y.e.lo y.e.port))∧Below w.heap.size w w':=by have HC:=Lib.hid (fun W=>wl z.e.six z.e.hi z.e.lo z.e.port y.e.six y.e.hi y.e.lo y.e.port W);unfold eT;go_enter Tryz.func77,Tryz.ntmps77;go_wp2_with fail;refine en 2 [(75,10,_),(75,10,_)] ?_;intro WB HB d0 sWB fHB;simp only[Bx,Bo]at fHB;refine(HC.out _).mono ?_;rintro e w1⟨rfl,hb⟩;have d1:=dE d0 hb;clear hb fHB;go_wp2;go_ret;exact⟨rfl,d1⟩
theorem FN(P:List (Nt×Int))(hP:∀y∈P,Rd y)(hpw:P.Pairwise fun a b=>hJ a.1.s a.1.h a.1.l a.1.b b.1.s b.1.h b.1.l b.1.b<0)(hl:P.length≤1000)(v:Value)(w:World)(hs:Sl w v 5 (P.map di)):Calls Tryz.prog 42 #[v] w fun e w'=>e= .returned Y∧Below w.heap.size w w':=by
 have HS:=Lib.hid hs;have HP:=Lib.hid hP;have HW:=Lib.hid hpw;obtain⟨a,cp,rfl,-⟩:=id hs;rw[List.length_map];obtain⟨n,hn⟩:∃n,n=P.length:=⟨_,rfl⟩;rw[←hn]at hl⊢;replace hn:=Lib.hid hn;clear hs hP hpw;go_enter Tryz.func42,Tryz.ntmps42;go_wp2_with fail;go_loopg[7]n(fun g s7 wr=>∃k:Nat,s7= .int .i64 k∧k+g=n∧aw w wr);case atStart=>exact⟨0,rfl,aa,⟨Below.refl _ _⟩⟩
 case round=>
  obtain⟨k,rfl,hg,hK⟩:=hrel;cases gk with
   |zero=>have hk:¬((k:Int)<(n:Int)):=aa;go_wp2;go_ret;exact⟨rfl,hK.out⟩
   |succ gk'=>
    have hk:(k:Int)<(n:Int):=aa;have hk0:0≤(k:Int):=aa;have hkl:k<P.length:=ig;have hy0:=List.getElem?_eq_getElem hkl;have hy:=HP.out _ (List.getElem_mem hkl);have hpq:∀q(hq:q<P.length),q<k→hJ P[q].1.s P[q].1.h P[q].1.l P[q].1.b P[k].1.s P[k].1.h P[k].1.l P[k].1.b<0:=fun q hq h=>(List.pairwise_iff_getElem.1 HW.out) q k hq hkl h;have hpq:=Lib.hid hpq;generalize P[k]=y at*;obtain⟨g,o,cL,e0,hel⟩:=dU HS.out (k:=k) (D:=di y) xM;simp only[Value.slice.injEq]at e0;obtain⟨rfl,-,rfl⟩:=e0;have hgw:=hel.lt;have hel:=hel.block (W':=wr) (hK.out.block g hel.lt);have e1:=hel.is;have e2:=hel.of;have hgr:=hel.lt;have HI:=Lib.hid (fun W=>Jt y hy W);simp only[di]at e2 HI;clear hel hy hy0;go_upto_region 4 with(fail);have HE1:=Lib.hid (dY:Bx (wr.alloc (.cells (#[.bool y.1.s,J y.1.h,J y.1.l,I y.1.b,I y.2]) 143)) wr.heap.size [(143,5,#[.bool y.1.s,J y.1.h,J y.1.l,I y.1.b,I y.2])]);have kE:Below wr.heap.size wr (wr.alloc (.cells (#[.bool y.1.s,J y.1.h,J y.1.l,I y.1.b,I y.2]) 143)):=cb;have sE:wr.heap.size<(wr.alloc (.cells (#[.bool y.1.s,J y.1.h,J y.1.l,I y.1.b,I y.2]) 143)).heap.size:=ay;generalize wr.alloc (.cells (#[.bool y.1.s,J y.1.h,J y.1.l,I y.1.b,I y.2]) 143)=WE at*;by_cases h0:k=0;·subst h0;exact DE
    ·have hk1:(k:Int)>0:=aa;have hk2:decide ((0:Int)<(k:Int))=true:=decide_eq_true aa;obtain⟨q,rfl⟩:∃q,k=q+1:=⟨k-1,aa⟩;obtain⟨hw,hw',hq0,hqn,hql⟩:=wS;have hz:=hpq.out q hql aa;have hx:=List.getElem?_eq_getElem hql;generalize P[q]=z at*;obtain⟨g',o',cL',e0,hel⟩:=dU HS.out (k:=q) (D:=di z) mR;simp only[Value.slice.injEq,Option.some.injEq,Addr.mk.injEq,and_true]at e0;obtain⟨⟨rfl,rfl⟩,-,-⟩:=e0;have hsub:=(fK hel 0 4 [.bool z.1.s,J z.1.h,J z.1.l,I z.1.b] rfl (fun q v hv=>pc));have HEz:=Lib.hid (show∀W,Below w.heap.size w W→aR W ⟨g,o+q*5,none⟩ 4=true∧aO W ⟨g,o+q*5,none⟩ 4=(#[.bool z.1.s,J z.1.h,J z.1.l,I z.1.b]:AV)from fun W kb=>bm hsub (kb.block g hgw));have HC:=Lib.hid (fun W=>JU z.1.s z.1.h z.1.l z.1.b y.1.s y.1.h y.1.l y.1.b W);skip;generalize hJ z.1.s z.1.h z.1.l z.1.b y.1.s y.1.h y.1.l y.1.b=r at*;exact DC
theorem FT(P:List (En))(hP:∀y∈P,lf y)(hpw:P.Pairwise fun a b=>hJ a.e.six a.e.hi a.e.lo a.e.port b.e.six b.e.hi b.e.lo b.e.port<0)(hl:P.length≤1000)(v:Value)(w:World)(hs:Sl w v 7 (P.map bh)):Calls Tryz.prog 43 #[v] w fun e w'=>e= .returned Y∧Below w.heap.size w w':=by
 have HS:=Lib.hid hs;have HP:=Lib.hid hP;have HW:=Lib.hid hpw;obtain⟨a,cp,rfl,-⟩:=id hs;rw[List.length_map];obtain⟨n,hn⟩:∃n,n=P.length:=⟨_,rfl⟩;rw[←hn]at hl⊢;replace hn:=Lib.hid hn;clear hs hP hpw;go_enter Tryz.func43,Tryz.ntmps43;go_wp2_with fail;go_loopg[7]n(fun g s7 wr=>∃k:Nat,s7= .int .i64 k∧k+g=n∧aw w wr);case atStart=>exact⟨0,rfl,aa,⟨Below.refl _ _⟩⟩
 case round=>
  obtain⟨k,rfl,hg,hK⟩:=hrel;cases gk with
   |zero=>have hk:¬((k:Int)<(n:Int)):=aa;go_wp2;go_ret;exact⟨rfl,hK.out⟩
   |succ gk'=>
    have hk:(k:Int)<(n:Int):=aa;have hk0:0≤(k:Int):=aa;have hkl:k<P.length:=ig;have hy0:=List.getElem?_eq_getElem hkl;have hy:=HP.out _ (List.getElem_mem hkl);have hpq:∀q(hq:q<P.length),q<k→hJ P[q].e.six P[q].e.hi P[q].e.lo P[q].e.port P[k].e.six P[k].e.hi P[k].e.lo P[k].e.port<0:=fun q hq h=>(List.pairwise_iff_getElem.1 HW.out) q k hq hkl h;have hpq:=Lib.hid hpq;generalize P[k]=y at*;obtain⟨g,o,cL,e0,hel⟩:=dU HS.out (k:=k) (D:=bh y) xM;simp only[Value.slice.injEq]at e0;obtain⟨rfl,-,rfl⟩:=e0;have hgw:=hel.lt;have hel:=hel.block (W':=wr) (hK.out.block g hel.lt);have e1:=hel.is;have e2:=hel.of;have hgr:=hel.lt;have HI:=Lib.hid (fun W=>uN y hy W);simp only[bh]at e2 HI;clear hel hy hy0;go_upto_region 4 with(fail);have HE1:=Lib.hid (dY:Bx (wr.alloc (.cells (#[y.e.six,J y.e.hi,J y.e.lo,y.e.port,y.s,y.f,y.x]) 77)) wr.heap.size [(77,7,#[y.e.six,J y.e.hi,J y.e.lo,y.e.port,y.s,y.f,y.x])]);have kE:Below wr.heap.size wr (wr.alloc (.cells (#[y.e.six,J y.e.hi,J y.e.lo,y.e.port,y.s,y.f,y.x]) 77)):=cb;have sE:wr.heap.size<(wr.alloc (.cells (#[y.e.six,J y.e.hi,J y.e.lo,y.e.port,y.s,y.f,y.x]) 77)).heap.size:=ay;generalize wr.alloc (.cells (#[y.e.six,J y.e.hi,J y.e.lo,y.e.port,y.s,y.f,y.x]) 77)=WE at*;by_cases h0:k=0;·subst h0;exact DE
    ·have hk1:(k:Int)>0:=aa;have hk2:decide ((0:Int)<(k:Int))=true:=decide_eq_true aa;obtain⟨q,rfl⟩:∃q,k=q+1:=⟨k-1,aa⟩;obtain⟨hw,hw',hq0,hqn,hql⟩:=wS;have hz:=hpq.out q hql aa;have hx:=List.getElem?_eq_getElem hql;generalize P[q]=z at*;obtain⟨g',o',cL',e0,hel⟩:=dU HS.out (k:=q) (D:=bh z) mR;simp only[Value.slice.injEq,Option.some.injEq,Addr.mk.injEq,and_true]at e0;obtain⟨⟨rfl,rfl⟩,-,-⟩:=e0;have hsub:=(fK hel 0 4 [z.e.six,J z.e.hi,J z.e.lo,z.e.port] rfl (fun q v hv=>pc));have HEz:=Lib.hid (show∀W,Below w.heap.size w W→aR W ⟨g,o+q*7,none⟩ 4=true∧aO W ⟨g,o+q*7,none⟩ 4=(#[z.e.six,J z.e.hi,J z.e.lo,z.e.port]:AV)from fun W kb=>bm hsub (kb.block g hgw));have HC:=Lib.hid (fun W=>wl z.e.six z.e.hi z.e.lo z.e.port y.e.six y.e.hi y.e.lo y.e.port W);skip;generalize hJ z.e.six z.e.hi z.e.lo z.e.port y.e.six y.e.hi y.e.lo y.e.port=r at*;exact DC
theorem Lv(P:List (Pe))(hP:∀y∈P,OI y)(hpw:P.Pairwise fun a b=>hJ a.e.six a.e.hi a.e.lo a.e.port b.e.six b.e.hi b.e.lo b.e.port<0)(hl:P.length≤1000)(v:Value)(w:World)(hs:Sl w v 10 (P.map eT)):Calls Tryz.prog 44 #[v] w fun e w'=>e= .returned Y∧Below w.heap.size w w':=by
 have HS:=Lib.hid hs;have HP:=Lib.hid hP;have HW:=Lib.hid hpw;obtain⟨a,cp,rfl,-⟩:=id hs;rw[List.length_map];obtain⟨n,hn⟩:∃n,n=P.length:=⟨_,rfl⟩;rw[←hn]at hl⊢;replace hn:=Lib.hid hn;clear hs hP hpw;go_enter Tryz.func44,Tryz.ntmps44;go_wp2_with fail;go_loopg[7]n(fun g s7 wr=>∃k:Nat,s7= .int .i64 k∧k+g=n∧aw w wr);case atStart=>exact⟨0,rfl,aa,⟨Below.refl _ _⟩⟩
 case round=>
  obtain⟨k,rfl,hg,hK⟩:=hrel;cases gk with
   |zero=>have hk:¬((k:Int)<(n:Int)):=aa;go_wp2;go_ret;exact⟨rfl,hK.out⟩
   |succ gk'=>
    have hk:(k:Int)<(n:Int):=aa;have hk0:0≤(k:Int):=aa;have hkl:k<P.length:=ig;have hy0:=List.getElem?_eq_getElem hkl;have hy:=HP.out _ (List.getElem_mem hkl);have hpq:∀q(hq:q<P.length),q<k→hJ P[q].e.six P[q].e.hi P[q].e.lo P[q].e.port P[k].e.six P[k].e.hi P[k].e.lo P[k].e.port<0:=fun q hq h=>(List.pairwise_iff_getElem.1 HW.out) q k hq hkl h;have hpq:=Lib.hid hpq;generalize P[k]=y at*;obtain⟨g,o,cL,e0,hel⟩:=dU HS.out (k:=k) (D:=eT y) xM;simp only[Value.slice.injEq]at e0;obtain⟨rfl,-,rfl⟩:=e0;have hgw:=hel.lt;have hel:=hel.block (W':=wr) (hK.out.block g hel.lt);have e1:=hel.is;have e2:=hel.of;have hgr:=hel.lt;have HI:=Lib.hid (fun W=>Ib y hy W);simp only[eT]at e2 HI;clear hel hy hy0;go_upto_region 4 with(fail);have HE1:=Lib.hid (dY:Bx (wr.alloc (.cells (#[y.e.six,J y.e.hi,J y.e.lo,y.e.port,y.i,y.a,y.b,y.c,y.d,y.f]) 75)) wr.heap.size [(75,10,#[y.e.six,J y.e.hi,J y.e.lo,y.e.port,y.i,y.a,y.b,y.c,y.d,y.f])]);have kE:Below wr.heap.size wr (wr.alloc (.cells (#[y.e.six,J y.e.hi,J y.e.lo,y.e.port,y.i,y.a,y.b,y.c,y.d,y.f]) 75)):=cb;have sE:wr.heap.size<(wr.alloc (.cells (#[y.e.six,J y.e.hi,J y.e.lo,y.e.port,y.i,y.a,y.b,y.c,y.d,y.f]) 75)).heap.size:=ay;generalize wr.alloc (.cells (#[y.e.six,J y.e.hi,J y.e.lo,y.e.port,y.i,y.a,y.b,y.c,y.d,y.f]) 75)=WE at*;by_cases h0:k=0;·
     subst h0;have hk1:¬(((0:Nat):Int)>0):=aa;have hk2:decide ((0:Int)<((0:Nat):Int))=false:=rfl;have HF:=i8 HE1;refine cQ (aw WE) [0] 16 ?_;refine pO ?_;refine pE ?_;refine bl 1 ?_;simp only[PL];go_wp2_with fail;refine(HI.out _).mono ?_;rintro e w1⟨rfl,hb⟩;have k1:Below WE.heap.size WE w1:=aj hb cb cs;have hk1:=aw.mk k1;clear hb;go_wp2;refine ba ?_;refine bE [2,3] 13 ?_;iterate 2 refine pO ?_
     refine pE ?_;refine gY 4 ?_;refine gY 5 ?_;refine gY 6 ?_;refine gN 7 ?_;refine gN 8 ?_;refine gN 9 ?_;refine gN 10 ?_;refine gN 11 ?_;refine gN 12 ?_;refine gN 13 ?_;refine gN 14 ?_;refine gY 15 ?_;refine bE [16] 0 ?_;refine pO ?_;refine pE ?_;refine cU ?_;go_wp2_with fail;go_roundg gk';case measure=>omega
     case rel=>exact⟨0+1,bD,aa,⟨hK.out.trans ((kE.trans (k1.mono kE.size)).mono hK.out.size)⟩⟩
    ·have hk1:(k:Int)>0:=aa;have hk2:decide ((0:Int)<(k:Int))=true:=decide_eq_true aa;obtain⟨q,rfl⟩:∃q,k=q+1:=⟨k-1,aa⟩;obtain⟨hw,hw',hq0,hqn,hql⟩:=wS;have hz:=hpq.out q hql aa;have hx:=List.getElem?_eq_getElem hql;generalize P[q]=z at*;obtain⟨g',o',cL',e0,hel⟩:=dU HS.out (k:=q) (D:=eT z) mR;simp only[Value.slice.injEq,Option.some.injEq,Addr.mk.injEq,and_true]at e0;obtain⟨⟨rfl,rfl⟩,-,-⟩:=e0;have hsub:=And.intro hel.is hel.of;have HEz:=Lib.hid (show∀W,Below w.heap.size w W→aR W ⟨g,o+q*10,none⟩ 10=true∧aO W ⟨g,o+q*10,none⟩ 10=eT z from fun W kb=>bm hsub (kb.block g hgw));have HC:=Lib.hid (fun W=>LA z y W);simp only[eT]at HEz HC;generalize hJ z.e.six z.e.hi z.e.lo z.e.port y.e.six y.e.hi y.e.lo y.e.port=r at*;have hr:¬(r≥0):=aa;have hr2:decide ((0:Int)≤r)=false:=decide_eq_false aa;clear hel hsub hx hz hql;have HF:=Lib.hid (fun(W:World)(hS:(aw WE) W)=>And.intro (Bx.mono hS.out HE1.out aF) (HEz.out W (hK.out.trans ((kE.trans (hS.out.mono kE.size)).mono hK.out.size))));refine cQ (aw WE) [0] 16 ?_;refine pO ?_;refine pE ?_;refine bl 1 ?_;simp only[PL];go_wp2_with fail;refine(HI.out _).mono ?_;rintro e w1⟨rfl,hb⟩;have k1:Below WE.heap.size WE w1:=aj hb cb cs;have hk1:=aw.mk k1;clear hb;go_wp2;refine ba ?_;refine bE [2,3] 13 ?_;iterate 2 refine pO ?_
     refine pE ?_;refine gY 4 ?_;refine gY 5 ?_;refine gY 6 ?_;refine gY 7 ?_;refine gY 8 ?_;refine gY 9 ?_;refine gY 10 ?_;refine gY 11 ?_;refine gY 12 ?_;refine bl 13 ?_;simp only[PL];go_wp2_with fail;refine(HC.out _).mono ?_;rintro e w2⟨rfl,hb⟩;have k2:Below WE.heap.size WE w2:=k1.trans (hb.mono k1.size);have hk2:=aw.mk k2;clear hb;go_wp2;refine ba ?_;refine gY 14 ?_;refine gY 15 ?_;refine bE [16] 0 ?_;refine pO ?_;refine pE ?_;refine cU ?_;go_wp2_with fail;go_roundg gk';case measure=>omega
     case rel=>exact⟨q+1+1,bD,aa,⟨hK.out.trans ((kE.trans (k2.mono kE.size)).mono hK.out.size)⟩⟩
end
section
attribute[local go_sem high]ah
attribute[local simp high]ah
theorem qL{α:Type}[DecidableEq α]:∀(A B:List α),A.Nodup→(∀x∈A,x∈B)→A.length≤B.length
 |[],_,_,_=>Nat.zero_le _
 |a::A,B,hn,h=>by have ha:=h a (List.mem_cons_self ..);have h1:=List.length_erase_of_mem ha;have h2:=List.length_pos_of_mem ha;have:=qL A (B.erase a) (List.nodup_cons.1 hn).2 (fun x hx=>(List.mem_erase_of_ne (fun(he:x=a)=>(List.nodup_cons.1 hn).1 (he▸hx))).2 (h x (List.mem_cons_of_mem _ hx)));simp only[List.length_cons];omega
theorem Ge{x y:Ed}(h:Gc x y<0):x≠y:=by
 rintro rfl;have h1:=(F9 x.six x.hi x.lo x.port x.six x.hi x.lo x.port).1.1 h;have h2:=(L9 x.six x.hi x.lo x.six x.hi x.lo).1;rcases h1 with h1|h1;·have:=h2.1 h1;omega
 ·omega
theorem Q2{L:List En}(h:L.Pairwise fun a b=>Gc a.e b.e<0):(L.map En.e).Nodup:=List.pairwise_map.2 (h.imp fun h=>Ge h)
theorem P3{P:List Pe}(h:P.Pairwise fun a b=>Gc a.e b.e<0):(P.map Pe.e).Nodup:=List.pairwise_map.2 (h.imp fun h=>Ge h)
theorem PZ{P:List Pe}(h:(P.map Pe.e).Nodup){p q:Pe}(hp:p∈P)(hq:q∈P)(he:p.e=q.e):p=q:=by
 induction P with
  |nil=>cases hp
  |cons a P ih=>
   rw[List.map_cons,List.nodup_cons]at h;rcases List.mem_cons.1 hp with rfl|h1<;>rcases List.mem_cons.1 hq with rfl|h2;·rfl
   ·exact(h.1 (he▸List.mem_map_of_mem h2)).elim
   ·exact(h.1 (he▸List.mem_map_of_mem h1)).elim
   ·exact ih h.2 h1 h2
theorem Mp{P:List Pe}(hP:(P.map Pe.e).Nodup){y:En}(h:Qa P y){p:Pe}(hp:p∈P)(he:p.e=y.e)(hi:p.i=false):y.s=3:=by
 rcases h with h|⟨-,h|⟨q,h1,h2,h3⟩⟩;·exact h.1
 ·exact(h p hp he).elim
 ·have:=PZ hP hp h1 (he.trans h2.symm);rw[this,h3]at hi;cases hi
theorem Il{L:List En}{P:List Pe}(hL:(L.map En.e).Nodup)(hP:(P.map Pe.e).Nodup)(h1:∀y∈L,Qa P y)(h2:∀p∈P,p.i=false→∃y∈L,y.e=p.e):je 3 L=gF false P:=by
 have e1:je 3 L=((L.filter fun y=>decide (y.s=3)).map En.e).length:=by rw[List.length_map];rfl
 have e2:gF false P=((P.filter fun y=>decide (y.i=false)).map Pe.e).length:=by rw[List.length_map];rfl
 have n1:((L.filter fun y=>decide (y.s=3)).map En.e).Nodup:=hL.sublist ((List.filter_sublist ..).map _);have n2:((P.filter fun y=>decide (y.i=false)).map Pe.e).Nodup:=hP.sublist ((List.filter_sublist ..).map _);rw[e1,e2];refine Nat.le_antisymm (qL _ _ n1 ?_) (qL _ _ n2 ?_);·
  intro x hx;obtain⟨y,hy,rfl⟩:=List.mem_map.1 hx;obtain⟨hy,hs⟩:=List.mem_filter.1 hy;rcases h1 y hy with⟨-,p,hp,he,hi⟩|⟨hn,-⟩;·exact List.mem_map.2 ⟨p,List.mem_filter.2 ⟨hp,decide_eq_true hi⟩,he⟩
  ·exact(hn (of_decide_eq_true hs)).elim
 ·intro x hx;obtain⟨p,hp,rfl⟩:=List.mem_map.1 hx;obtain⟨hp,hi⟩:=List.mem_filter.1 hp;obtain⟨y,hy,he⟩:=h2 p hp (of_decide_eq_true hi);exact List.mem_map.2 ⟨y,List.mem_filter.2 ⟨hy,decide_eq_true (Mp hP (h1 y hy) hp he.symm (of_decide_eq_true hi))⟩,he⟩
theorem yq(e:Ed):∀(L:List En)(k:Nat)(y:En),y∈L→y.e=e→GN e L k≠-1
 |[],_,_,h,_=>nomatch h
 |x::r,k,y,h,he=>by
  rw[GN];by_cases hx:x.e=e;·rw[if_pos (decide_eq_true hx)];omega
  ·rw[if_neg (by simpa using hx)];rcases List.mem_cons.1 h with rfl|h;·exact(hx he).elim
   ·exact yq e r (k+1) y h he
theorem K8{L:List En}{P:List Pe}(hP:(P.map Pe.e).Nodup)(h1:∀y∈L,Qa P y)(h2:∀p∈P,p.i=false→∃y∈L,y.e=p.e)(p:Pe)(hp:p∈P)(hi:p.i=false):∃(i:Nat)(y:En),wB L p.e=(i:Int)∧L[i]? =some y∧y.s=3:=by
 obtain⟨y,hy,he⟩:=h2 p hp hi;rcases wC L p.e with h|⟨i,-,h,z,hz,hze⟩;·exact(yq p.e L 0 y hy he h).elim
 ·exact⟨i,z,h,hz,Mp hP (h1 z (List.mem_of_getElem? hz)) hp hze.symm hi⟩
theorem Ho(L:List En)(P:List Pe)(hl:L.length≤1000)(hp:P.length≤1000)(vb vk vp:Value)(ab:Option Addr)(nb cb':Nat)(eb:vb= .slice ab nb cb')(w:World)(hk:Sl w vk 7 (L.map bh))(hv:Sl w vp 10 (P.map eT)):Calls Tryz.prog 46 #[.agg #[vb,vk,vp]] w fun e w'=>e= .returned (I ((gF false P+je 2 L:Nat):Int))∧Below w.heap.size w w':=by
 have HP:=Lib.hid (fun W(k:Below w.heap.size w W)=>sR false P aa vp W (hv.below k));have HK:=Lib.hid (fun W(k:Below w.heap.size w W)=>Bk 2 L aa vk W (hk.below k));have hw:IntKind.i64.wrap ((gF false P:Int)+(je 2 L:Int))=((gF false P+je 2 L:Nat):Int):=by have h1:=wu false P;have h2:=wt 2 L;rw[IntKind.wrap_i64];omega
 obtain⟨ak,ck,rfl,-⟩:=id hk;obtain⟨ap,cp,rfl,-⟩:=id hv;subst eb;clear hk hv;generalize(L.map bh).length=nk at*;generalize(P.map eT).length=np at*;generalize gF false P=x at*;generalize je 2 L=y at*;clear hl hp;go_enter Tryz.func46,Tryz.ntmps46;go_upto_region 1 with(fail);refine jg 1 [(57,3,_)] ?_;intro WB HB d0 sWB fHB;simp only[Bx,Bo]at fHB;have HF:=i8 HB;refine cQ (aw WB) [0,1,3,4] 4 ?_;iterate 4 refine pO ?_
 refine pE ?_;refine bl 2 ?_;simp only[PL];go_wp2_with fail;refine(HP.out _ (d0.trans ((cb:Below WB.heap.size WB _).mono d0.size))).mono ?_;rintro e w2q⟨rfl,hb⟩;have kq2:Below WB.heap.size WB w2q:=aj hb cb cs;have hk2:=aw.mk kq2;have sq2:=kq2.size;have hB2:=Bx.mono kq2 HB.out aF;simp only[Bx,Bo]at hB2;clear hb;go_wp2;refine ba ?_;refine bl 5 ?_;simp only[PL];go_wp2_with fail;refine(HK.out _ (d0.trans ((cb:Below WB.heap.size WB _).mono d0.size))).mono ?_;rintro e w5q⟨rfl,hb⟩;have kq5:Below WB.heap.size WB w5q:=aj hb cb cs;have hk5:=aw.mk kq5;have sq5:=kq5.size;have hB5:=Bx.mono kq5 HB.out aF;simp only[Bx,Bo]at hB5;clear hb;go_wp2;refine ba ?_;refine bE [6,7] 0 ?_;iterate 2 refine pO ?_
 refine pE ?_;refine cU ?_;go_wp2;go_ret;exact⟨rfl,d0.trans ((cb:Below WB.heap.size WB _).mono d0.size)⟩
theorem Hr(L:List En)(P:List Pe)(hl:L.length≤1000)(hp:P.length≤1000)(hq:∀p∈P,p.i=false→∃(i:Nat)(y:En),wB L p.e=(i:Int)∧L[i]? =some y∧y.s=3)(hc:je 3 L=gF false P)(vb vk vp:Value)(ab:Option Addr)(nb cb':Nat)(eb:vb= .slice ab nb cb')(w:World)(hk:Sl w vk 7 (L.map bh))(hv:Sl w vp 10 (P.map eT)):Calls Tryz.prog 47 #[.agg #[vb,vk,vp]] w fun e w'=>e= .returned Y∧Below w.heap.size w w':=by
 have HP:=Lib.hid (fun W(k:Below w.heap.size w W)=>sR false P aa vp W (hv.below k));have HK:=Lib.hid (fun W(k:Below w.heap.size w W)=>Bk 3 L aa vk W (hk.below k));have HF:=Lib.hid (fun(x:Ed)W(k:Below w.heap.size w W)=>ri L x vk W (hk.below k) aa);rw[hc]at HK;generalize gF false P=x at*;have HQ:=Lib.hid hq;have HKL:=Lib.hid hk;have HKP:=Lib.hid hv;clear hq hc;obtain⟨ak,ck,rfl,-⟩:=id hk;obtain⟨ap,cp,rfl,-⟩:=id hv;subst eb;clear hk hv;generalize hnk:(L.map bh).length=nk at*;generalize hnp:(P.map eT).length=np at*;rw[List.length_map]at hnk hnp;rw[hnk]at hl;rw[hnp]at hp;replace hnk:=Lib.hid hnk;replace hnp:=Lib.hid hnp;go_enter Tryz.func47,Tryz.ntmps47;go_wp2_with fail;refine jg 1 [(57,3,_)] ?_;intro WB HB d0 sWB fHB;simp only[Bx,Bo]at fHB;go_loopg[9]np(fun g s9 wr=>∃k:Nat,s9= .int .i64 k∧k+g=np∧aw WB wr);case atStart=>exact⟨0,rfl,aa,⟨Below.refl _ _⟩⟩
 case round=>
  obtain⟨k,rfl,hg,hK⟩:=hrel;have HBr:=Lib.hid (Bx.mono hK.out HB.out aF);have fBr:=HBr.out;simp only[Bx,Bo]at fBr;have dr:=d0.trans (hK.out.mono d0.size);have sr:=hK.out.size;clear fHB;cases gk with
   |zero=>
    have hk:¬((k:Int)<(np:Int)):=aa;go_upto_region 8 with(fail);have HF:=i8 HBr;refine cQ (aw wr) [0,1,3,4] 4 ?_;iterate 4 refine pO ?_
    refine pE ?_;refine bl 2 ?_;simp only[PL];go_wp2_with fail;refine(HK.out _ (dr.trans ((cb:Below wr.heap.size wr _).mono dr.size))).mono ?_;rintro e w2q⟨rfl,hb⟩;have kq2:Below wr.heap.size wr w2q:=aj hb cb cs;have hk2:=aw.mk kq2;have sq2:=kq2.size;have hB2:=Bx.mono kq2 HBr.out aF;simp only[Bx,Bo]at hB2;clear hb;go_wp2;refine ba ?_;refine bl 5 ?_;simp only[PL];go_wp2_with fail;refine(HP.out _ (dr.trans ((cb:Below wr.heap.size wr _).mono dr.size))).mono ?_;rintro e w5q⟨rfl,hb⟩;have kq5:Below wr.heap.size wr w5q:=aj hb cb cs;have hk5:=aw.mk kq5;have sq5:=kq5.size;have hB5:=Bx.mono kq5 HBr.out aF;simp only[Bx,Bo]at hB5;clear hb;go_wp2;refine ba ?_;refine bE [6,7] 0 ?_;iterate 2 refine pO ?_
    refine pE ?_;refine cU ?_;go_wp2;go_ret;exact⟨rfl,dr.trans ((cb:Below wr.heap.size wr _).mono dr.size)⟩
   |succ gk'=>
    have hk:(k:Int)<(np:Int):=aa;have hk0:0≤(k:Int):=aa;have hkl:k<P.length:=pI;have hy0:=List.getElem?_eq_getElem hkl;have hqp:=HQ.out _ (List.getElem_mem hkl);generalize P[k]=p at*;obtain⟨g,o,cL,e0,hel⟩:=dU HKP.out (k:=k) (D:=eT p) xM;simp only[Value.slice.injEq]at e0;obtain⟨rfl,-,rfl⟩:=e0;have hel:=hel.block (W':=wr) (dr.block g hel.lt);have e1:=hel.is;have e2:=hel.of;have HFp:=Lib.hid (HF.out p.e);simp only[eT]at e2;clear hel hy0 hkl;cases hin:p.i<;>replace hin:=Lib.hid hin;·
     obtain⟨i,y,h1,h2,h3⟩:=hqp hin.out;have hli:i<L.length:=(List.getElem?_eq_some_iff.1 h2).1;have hi0:¬((i:Int)<0):=aa;have hi0':0≤(i:Int):=aa;have hi1:(i:Int)<(nk:Int):=xR;obtain⟨gi,oi,cI,e0,hel⟩:=dU HKL.out (k:=i) (D:=bh y) (by rw[List.getElem?_map,h2];rfl);simp only[Value.slice.injEq]at e0;obtain⟨rfl,-,rfl⟩:=e0;have hcl:=hel.cell (k:=4) (v:=y.s) rfl;rw[h3]at hcl;have HEy:=Lib.hid (show∀W,Below w.heap.size w W→W.cell? ⟨gi,oi+i*7+4,none⟩=some (.int .i64 3)from fun W k=>by rw[World.cell?_of_block (a:=⟨gi,oi+i*7+4,none⟩) (k.block gi hel.lt)];exact hcl);rw[h1]at HFp;clear hel hcl h1 h2 h3 hli hqp;have e2':=e2;rw[hin.out]at e2;go_wp2_with fail;have HE1:=Lib.hid (dY:Bx (wr.alloc (.cells (#[p.e.six,J p.e.hi,J p.e.lo,p.e.port,F,p.a,p.b,p.c,p.d,p.f]) 75)) wr.heap.size [(75,10,#[p.e.six,J p.e.hi,J p.e.lo,p.e.port,F,p.a,p.b,p.c,p.d,p.f])]);have kE:Below wr.heap.size wr (wr.alloc (.cells (#[p.e.six,J p.e.hi,J p.e.lo,p.e.port,F,p.a,p.b,p.c,p.d,p.f]) 75)):=bY;have sE:wr.heap.size<(wr.alloc (.cells (#[p.e.six,J p.e.hi,J p.e.lo,p.e.port,F,p.a,p.b,p.c,p.d,p.f]) 75)).heap.size:=ay;generalize wr.alloc (.cells (#[p.e.six,J p.e.hi,J p.e.lo,p.e.port,F,p.a,p.b,p.c,p.d,p.f]) 75)=WE at*;have HB5:=cD kE HBr;refine(HFp.out _ (dr.trans (kE.mono dr.size))).mono ?_;rintro e w6⟨rfl,hb⟩;have HE6:=cD hb HE1;have HB6:=cD hb HB5;have k6:Below wr.heap.size wr w6:=kE.trans (hb.mono aa);have f1:=HE6.out;have f2:=HB6.out;simp only[Bx,Bo]at f1 f2;clear hb fBr e1 e2 e2';have hEy:=HEy.out w6 (dr.trans (k6.mono dr.size));go_wp2_with fail;go_roundg gk';case measure=>omega
     case rel=>exact⟨k+1,bD,aa,⟨hK.out.trans (k6.mono hK.out.size)⟩⟩
    ·clear hqp;generalize wB L p.e=z at*;have e2':=e2;rw[hin.out]at e2;go_wp2_with fail;have HE1:=Lib.hid (dY:Bx (wr.alloc (.cells (#[p.e.six,J p.e.hi,J p.e.lo,p.e.port,Y,p.a,p.b,p.c,p.d,p.f]) 75)) wr.heap.size [(75,10,#[p.e.six,J p.e.hi,J p.e.lo,p.e.port,Y,p.a,p.b,p.c,p.d,p.f])]);have kE:Below wr.heap.size wr (wr.alloc (.cells (#[p.e.six,J p.e.hi,J p.e.lo,p.e.port,Y,p.a,p.b,p.c,p.d,p.f]) 75)):=bY;have sE:wr.heap.size<(wr.alloc (.cells (#[p.e.six,J p.e.hi,J p.e.lo,p.e.port,Y,p.a,p.b,p.c,p.d,p.f]) 75)).heap.size:=ay;generalize wr.alloc (.cells (#[p.e.six,J p.e.hi,J p.e.lo,p.e.port,Y,p.a,p.b,p.c,p.d,p.f]) 75)=WE at*;have HB5:=cD kE HBr;refine(HFp.out _ (dr.trans (kE.mono dr.size))).mono ?_;rintro e w6⟨rfl,hb⟩;have HE6:=cD hb HE1;have HB6:=cD hb HB5;have k6:Below wr.heap.size wr w6:=kE.trans (hb.mono aa);have f1:=HE6.out;have f2:=HB6.out;simp only[Bx,Bo]at f1 f2;clear hb fBr e1 e2 e2';go_wp2_with fail;go_roundg gk';case measure=>omega
     case rel=>exact⟨k+1,bD,aa,⟨hK.out.trans (k6.mono hK.out.size)⟩⟩
end
theorem yH(m k:Nat)(hk:k≤m)(i:Nat):(2^m-2^k).testBit i=(decide (i<m)&&!decide (i<k)):=by have h0:0<2^k:=Nat.two_pow_pos k;have h1:2^k≤2^m:=Nat.pow_le_pow_right aa hk;have h2:2^m-2^k=2^m-((2^k-1)+1):=aa;rw[h2,Nat.testBit_two_pow_sub_succ aa,Nat.testBit_two_pow_sub_one]
theorem C8{x y:Nat}(m k:Nat)(hk:k≤m)(h:∀j,k≤j→j<m→x.testBit j=y.testBit j):x&&&(2^m-2^k)=y&&&(2^m-2^k):=by apply Nat.eq_of_testBit_eq;intro i;rw[Nat.testBit_and,Nat.testBit_and,yH m k hk];by_cases h1:i<m<;>by_cases h2:i<k<;>simp[h1,h2];exact h i aa h1
theorem C9{x:Nat}(m k:Nat)(hk:k≤m)(hx:x<2^m)(h:∀j,j<k→x.testBit j=false):x&&&(2^m-2^k)=x:=by
 apply Nat.eq_of_testBit_eq;intro i;rw[Nat.testBit_and,yH m k hk];by_cases h1:i<m;·
  by_cases h2:i<k;·simp[h2,h i h2]
  ·simp[h1,h2]
 ·have:x.testBit i=false:=Nat.testBit_lt_two_pow (Nat.lt_of_lt_of_le hx (Nat.pow_le_pow_right aa aa));simp[this]
theorem Lz:∀n:Fin 65,gy (n.val:Int)=((2^64-2^(64-n.val):Nat):Int):=by decide+kernel
theorem z9:∀n:Fin 33,gy (n.val:Int)/4294967296=((2^32-2^(32-n.val):Nat):Int):=by decide+kernel
theorem IZ(b:Int)(n:Nat)(hn:n≤64)(h:min (max b 0) 64=n):gy b=((2^64-2^(64-n):Nat):Int):=by rw[←Lz ⟨n,aa⟩];unfold gy;rw[h,show min (max (n:Int) 0) 64=(n:Int)from aa]
theorem lV{x:Int}(h:U6 x)(M:Nat)(hM:M<18446744073709551616):bits .and .u64 x (M:Int)=((x.toNat&&&M:Nat):Int):=by obtain⟨k,rfl⟩:=Int.eq_ofNat_of_zero_le h.1;rw[u64_and _ _ h.1 h.2 aa aa];rfl
theorem C6{x y:Int}(hx:U6 x)(hy:U6 y)(b:Int)(n:Nat)(hn:n≤64)(h:min (max b 0) 64=n)(hb:∀i,i<n→x.toNat.testBit (63-i)=y.toNat.testBit (63-i)):bits .and .u64 x (gy b)=bits .and .u64 y (gy b):=by
 have hlt:2^64-2^(64-n)<18446744073709551616:=by have:=Nat.two_pow_pos (64-n);omega
 rw[IZ b n hn h,lV hx _ hlt,lV hy _ hlt,C8 (x:=x.toNat) (y:=y.toNat) 64 (64-n) aa (fun j h1 h2=>by have:=hb (63-j) aa;rwa[show 63-(63-j)=j from aa]at this)]
theorem Mi{x:Int}(hx:U6 x)(b:Int)(n:Nat)(hn:n≤64)(h:min (max b 0) 64=n)(hb:∀i,n≤i→i<64→x.toNat.testBit (63-i)=false):bits .and .u64 x (gy b)=x:=by
 have hlt:2^64-2^(64-n)<18446744073709551616:=by have:=Nat.two_pow_pos (64-n);omega
 rw[IZ b n hn h,lV hx _ hlt,C9 64 (64-n) aa (by have:=hx.1;have:=hx.2;omega) (fun j h1=>by have:=hb (63-j) aa aa;rwa[show 63-(63-j)=j from aa]at this)];have:=hx.1;omega
theorem KA{x y:Int}(hx:U6 x)(hy:U6 y)(n:Nat)(hn:n≤32)(hb:∀i,i<n→x.toNat.testBit (31-i)=y.toNat.testBit (31-i)):bits .and .u64 x (gy n/4294967296)=bits .and .u64 y (gy n/4294967296):=by
 have hlt:2^32-2^(32-n)<18446744073709551616:=by have:=Nat.two_pow_pos (32-n);omega
 rw[show gy n/4294967296=_ from z9 ⟨n,aa⟩,lV hx _ hlt,lV hy _ hlt,C8 (x:=x.toNat) (y:=y.toNat) 32 (32-n) aa (fun j h1 h2=>by have:=hb (31-j) aa;rwa[show 31-(31-j)=j from aa]at this)]
theorem P1{x:Int}(hx:U6 x)(h4:x<4294967296)(n:Nat)(hn:n≤32)(hb:∀i,n≤i→i<32→x.toNat.testBit (31-i)=false):bits .and .u64 x (gy n/4294967296)=x:=by
 have hlt:2^32-2^(32-n)<18446744073709551616:=by have:=Nat.two_pow_pos (32-n);omega
 rw[show gy n/4294967296=_ from z9 ⟨n,aa⟩,lV hx _ hlt,C9 32 (32-n) aa (by have:=hx.1;omega) (fun j h1=>by have:=hb (31-j) aa aa;rwa[show 31-(31-j)=j from aa]at this)];have:=hx.1;omega
theorem Iq{s:Bool}{h l:Int}{i:Nat}(hr:gM s h l i=0):(rl s h l i).toNat.testBit (rj s i)=false:=by
 unfold gM at hr;split at hr;·omega
 ·rename_i hc;simpa using hc
theorem Ir{s:Bool}{h l h' l':Int}{i:Nat}(hr:gM s h l i=gM s h' l' i):(rl s h l i).toNat.testBit (rj s i)=(rl s h' l' i).toNat.testBit (rj s i):=by
 unfold gM at hr;split at hr<;>split at hr<;>rename_i c1 c2;·rw[c1,c2]
 ·omega
 ·omega
 ·rw[Bool.not_eq_true]at c1 c2;rw[c1,c2]
theorem Da{n:Nt}(hh:U6 n.h)(hl:U6 n.l)(h:Q3 n):Fg n.s n.h n.l n.b=true:=by
 obtain⟨h1,h2,h3,h4⟩:=h;obtain⟨s,hi,lo,b⟩:=n;simp only at*;obtain⟨b,rfl⟩:=Int.eq_ofNat_of_zero_le h2;have hok:Dc s hi lo b:=⟨h1,h2,h3⟩;unfold Fg;rw[decide_eq_true hok];cases s;·
  have hlo:lo<4294967296:=by simp[ir]at h1;exact h1.2
  have h3:(b:Int)≤32:=h3;have e:nJ false lo b=lo:=P1 hl hlo b aa (fun i ha hb=>by have:=Iq (h4 i aa (show(i:Int)<32 by omega));simpa[rl,rj]using this);rw[e];simp[pm]
 ·have h3:(b:Int)≤128:=h3;have e1:pm true hi b=hi:=Mi hh b (min b 64) aa aa (fun i ha hb=>by have:=Iq (h4 i aa (show(i:Int)<128 by omega));simpa[rl,rj,hb,Nat.mod_eq_of_lt hb]using this);have e2:nJ true lo b=lo:=Mi hl (b-64) (b-64) aa aa (fun i ha hb=>by have:=Iq (h4 (i+64) aa (show((i+64:Nat):Int)<128 by omega));have hm:(i+64)%64=i:=aa;simpa[rl,rj,hm,show¬(i+64<64)by omega]using this);rw[e1,e2];simp
theorem IB{s:Bool}{h l h' l':Int}(hh:U6 h)(hl:U6 l)(hh':U6 h')(hl':U6 l')(hr:ir s h l=ir s h' l')(hb:∀i:Nat,i<(if s=true then 32 else 16)→gM s h l i=gM s h' l' i):yu s h l=yu s h' l':=by
 unfold yu;rw[hr];split;·
  cases s;·
   have hz:∀x:Int,pm false x 16=x:=fun _=>rfl;have e:nJ false l 16=nJ false l' 16:=KA hl hl' 16 aa (fun i hi=>by have:=Ir (hb i hi);simpa[rl,rj]using this);have hhh:h=h':=by rename_i hc;have a:=hr.trans hc;simp[ir]at a hc;omega
   rw[hhh];show#[_,_,Value.int .u64 (nJ false l 16),_]=#[_,_,Value.int .u64 (nJ false l' 16),_];rw[e]
  ·have e:pm true h 32=pm true h' 32:=C6 hh hh' 32 32 aa aa (fun i hi=>by have:=Ir (hb i hi);simpa[rl,rj,show i<64 by omega,Nat.mod_eq_of_lt (show i<64 by omega)]using this);have e2:nJ true l 32=nJ true l' 32:=C6 hl hl' (32-64) 0 aa aa (fun i hi=>aa);show#[_,Value.int .u64 (pm true h 32),Value.int .u64 (nJ true l 32),_]=#[_,Value.int .u64 (pm true h' 32),Value.int .u64 (nJ true l' 32),_];rw[e,e2]
 ·rfl
end Go.Proofs.YtnncjbkepakgpaaGreat
