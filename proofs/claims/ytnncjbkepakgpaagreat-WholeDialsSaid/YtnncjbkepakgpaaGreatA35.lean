/- OPERATIONS CLEANED: those that have nothing to be cleaned. THE TAPE: its values as cells; its methods. CODES THAT READ A TAPE: which operations they ask for, told what memory would tell. A CODE IS PLAYED. -/
import Derived.Test.YtnncjbkepakgpaaGreatA34
namespace Go.Proofs.YtnncjbkepakgpaaGreat
open Go.RowKit Qv
set_option linter.unusedVariables false
set_option linter.unusedSimpArgs false
set_option maxRecDepth 100000
set_option maxHeartbeats 2000000
section
theorem rD(w:World):w.drew.heap.size=w.heap.size:=id rfl
attribute[local go_sem high]rD
attribute[local simp high]rD
def Lc(a b c:Int):Prop:=((a=1∨a=2∨a=3∨a=4)∧b=0∧c=0)∨(a=5∧c=0)∨a=6
theorem AM(a b c:Int)(h:Lc a b c)(w:World):Calls Tryz.prog 432 #[.agg #[a,b,c]] w fun e w'=>e= .returned (.agg #[a,b,c])∧Below w.heap.size w w':=by rcases h with⟨rfl|rfl|rfl|rfl,rfl,rfl⟩|⟨rfl,rfl⟩|rfl;all_goals go_enter Tryz.func432,Tryz.ntmps432;go_wp2;exact bodyPost_ret (v:=.agg _) (aN (t:=101) Tryz.results432 _ _ _ rfl bG bG ji wd) rfl ⟨rfl,bY⟩
theorem Ng(a n:Int)(p1 p2 p3 p4 p5 p6 p7 p8 p9 p10:Value)(hp:bB #[p1,p2,p3,p4,p5,p6,p7,p8,p9,p10]=true)(a5 a6:Option Addr)(m5 c5 m6 c6:Nat)(h:(a=4∧n=0∧#[p1,p2,p3,p4,p5,p6,p7,p8,p9,p10]=zP∧a5=none∧m5=0∧c5=0)∨(a=5∧#[p1,p2,p3,p4,p5,p6,p7,p8,p9,p10]=zP∧a5=none∧m5=0∧c5=0∧a6=none∧m6=0∧c6=0)∨(a=6∧n=0∧a5=none∧m5=0∧c5=0∧a6=none∧m6=0∧c6=0))(w:World):Calls Tryz.prog 433 #[a,.agg #[n,p1,p2,p3,p4,p5,p6,p7,p8,p9,p10,E a5 m5 c5,E a6 m6 c6]] w fun e w'=>e= .returned (.agg #[n,p1,p2,p3,p4,p5,p6,p7,p8,p9,p10,E a5 m5 c5,E a6 m6 c6])∧Below w.heap.size w w':=by
 simp only[bW,bi,bF,Bool.and_eq_true,and_true]at hp;rcases h with⟨rfl,rfl,e,rfl,rfl,rfl⟩|⟨rfl,e,rfl,rfl,rfl,rfl,rfl,rfl⟩|⟨rfl,rfl,rfl,rfl,rfl,rfl,rfl,rfl⟩;iterate 2(focus simp only[zP,Array.mk.injEq,List.cons.injEq,and_true]at e;obtain⟨rfl,rfl,rfl,rfl,rfl,rfl,rfl,rfl,rfl,rfl⟩:=e;go_enter Tryz.func433,Tryz.ntmps433;go_wp2;exact bodyPost_ret (v:=.agg _) (aN (t:=103) Tryz.results433 _ _ _ rfl bG bG cy ea) rfl ⟨rfl,bY⟩)
 go_enter Tryz.func433,Tryz.ntmps433;go_wp2;exact bodyPost_ret (v:=.agg _) (aN (t:=103) Tryz.results433 _ _ _ rfl bG bG cy ea) rfl ⟨rfl,bY⟩
theorem ru(k lk:Int)(hk:k=1∨k=2∨k=3∨k=4∨(k=8∧lk=0))(om:Bool)(w:World):Calls Tryz.prog 431 #[.agg (#[k,lk,Z,Z,Z,Z,Z,Z,F,U,U,Z,F,Z,Z,Z,Z,Z,V,V,om])] w fun e w'=>e= .returned (.agg (#[k,lk,Z,Z,Z,Z,Z,Z,F,U,U,Z,F,Z,Z,Z,Z,Z,V,V,om]))∧Below w.heap.size w w':=by rcases hk with rfl|rfl|rfl|rfl|⟨rfl,rfl⟩;all_goals go_enter Tryz.func431,Tryz.ntmps431;go_wp2;exact bodyPost_ret (v:=.agg _) (aN (t:=105) Tryz.results431 _ _ _ rfl bG bG fG j9) rfl ⟨rfl,bY⟩
theorem Na(a b c:Int)(h:Lc a b c)(om:Bool)(w:World):Calls Tryz.prog 431 #[.agg (#[I 5,Z,a,b,c,Z,Z,Z,F,U,U,Z,F,Z,Z,Z,Z,Z,V,V,om])] w fun e w'=>e= .returned (.agg (#[I 5,Z,a,b,c,Z,Z,Z,F,U,U,Z,F,Z,Z,Z,Z,Z,V,V,om]))∧Below w.heap.size w w':=by
 have HP:=Lib.hid (AM a b c h);clear h;go_enter Tryz.func431,Tryz.ntmps431;go_wp2_with fail;refine en 3 [(105,21,_),(105,21,_),(105,21,_)] ?_;intro W8 HB d0 _ fB;simp only[Bx,Bo]at fB;refine(HP.out _).mono ?_;rintro e w1⟨rfl,hb⟩;have HB1:=cD hb HB;have d1:=dE d0 hb;have fB1:=HB1.out;simp only[Bx,Bo]at fB1;clear hb fB;go_wp2;refine bodyPost_ret (v:=.agg #[I 5,Z,a,b,c,Z,Z,Z,F,U,U,Z,F,Z,Z,Z,Z,Z,V,V,om]) (aN (t:=105) Tryz.results431 _ _ _ rfl ?_ ?_ fG j9) rfl ?_;·go_simp
 ·go_simp
 exact⟨rfl,ai (ai d1 aa _) aa _⟩
theorem Nc(a x y:Int)(h:a=1∨a=2)(om:Bool)(w:World):Calls Tryz.prog 431 #[.agg (#[I 7,Z,a,Z,Z,x,y,Z,F,U,U,Z,F,Z,Z,Z,Z,Z,V,V,om])] w fun e w'=>e= .returned (.agg (#[I 7,Z,a,Z,Z,x,y,Z,F,U,U,Z,F,Z,Z,Z,Z,Z,V,V,om]))∧Below w.heap.size w w':=by
 have HP:=Lib.hid (AM a 0 0 (.inl ⟨h.elim .inl (fun h=>.inr (.inl h)),rfl,rfl⟩));clear h;go_enter Tryz.func431,Tryz.ntmps431;go_wp2_with fail;go_upto_region 14 with(fail);refine jg 3 [(105,21,_),(105,21,_),(105,21,_)] ?_;intro W8 HB d0 s0 _;have HB2:=Lib.hid (show Bx W8 w.heap.size [(105,21,#[I 7,Z,a,Z,Z,x,y,Z,F,U,U,Z,F,Z,Z,Z,Z,Z,V,V,om]),(105,21,#[Z,Z,Z,Z,Z,Z,Z,Z,F,U,U,Z,F,Z,Z,Z,Z,Z,V,V,F])]from⟨HB.out.1,HB.out.2.1,trivial⟩);have fB:=HB.out;simp only[Bx,Bo]at fB;refine bA (ax (w.heap.size+1+1) W8) [0,1,3,4,5,6] 7 af af (fun _ _ d _ _ h=>bo) (ax.refl _ _).drew ?_;simp only[PL];apply ae;·exact xv
 try simp only[PT]
 apply ae;·exact xv
 try simp only[PT]
 apply ae;·exact xv
 try simp only[PT]
 apply ae;·exact xv
 try simp only[PT]
 apply ae;·exact xv
 try simp only[PT]
 apply ae;·exact xv
 try simp only[PT]
 refine aC ?_;refine aX 2 af af ?_;simp only[aU];go_wp2_with fail;refine(HP.out _).mono ?_;rintro e w1⟨rfl,hb⟩;have b1:Below W8.heap.size W8 w1:=aj hb (fk) (by first|exact Nat.le_refl _|omega|(show W8.heap.size≤_;simp;done)|exact b0.size);have HBk1:=cD b1 HB;have fBk1:=HBk1.out;simp only[Bx,Bo]at fBk1;have sk1:=b1.size;clear hb;go_wp2;refine am (pb) ?_;refine bb [7] 5 rfl af (fun _ _ d _ _ h=>bo) (pb) ?_;simp only[PL];apply ae;·exact xv
 try simp only[PT]
 refine aC ?_;refine aX 8 af af ?_;simp only[aU];go_wp2_with fail;refine am (pb) ?_;refine bb [9] 3 rfl af (fun _ _ d _ _ h=>bo) (pb) ?_;simp only[PL];apply ae;·exact xv
 try simp only[PT]
 refine aC ?_;refine aX 10 af af ?_;simp only[aU];go_wp2_with fail;refine am (pb) ?_;refine bb [11] 1 rfl af (fun _ _ d _ _ h=>bo) (pb) ?_;simp only[PL];apply ae;·exact xv
 try simp only[PT]
 refine aC ?_;refine aX 12 af af ?_;simp only[aU];go_wp2_with fail;refine am (pb) ?_;refine cw af ?_;go_wp2;refine bodyPost_ret (v:=.agg #[I 7,Z,a,Z,Z,x,y,Z,F,U,U,Z,F,Z,Z,Z,Z,Z,V,V,om]) (aN (t:=105) Tryz.results431 _ _ _ rfl ?_ ?_ fG j9) rfl ?_;·go_simp
 ·go_simp
 exact⟨rfl,Py⟩
theorem Nb(a b c n:Int)(hl:Lc a b c)(p1 p2 p3 p4 p5 p6 p7 p8 p9 p10:Value)(hp:bB #[p1,p2,p3,p4,p5,p6,p7,p8,p9,p10]=true)(a5 a6:Option Addr)(m5 c5 m6 c6:Nat)(h:(a=4∧n=0∧#[p1,p2,p3,p4,p5,p6,p7,p8,p9,p10]=zP∧a5=none∧m5=0∧c5=0)∨(a=5∧#[p1,p2,p3,p4,p5,p6,p7,p8,p9,p10]=zP∧a5=none∧m5=0∧c5=0∧a6=none∧m6=0∧c6=0)∨(a=6∧n=0∧a5=none∧m5=0∧c5=0∧a6=none∧m6=0∧c6=0))(om:Bool)(w:World):Calls Tryz.prog 431 #[.agg (#[I 6,Z,a,b,c,Z,Z,n,p1,p2,p3,p4,p5,p6,p7,p8,p9,p10,E a5 m5 c5,E a6 m6 c6,om])] w fun e w'=>e= .returned (.agg (#[I 6,Z,a,b,c,Z,Z,n,p1,p2,p3,p4,p5,p6,p7,p8,p9,p10,E a5 m5 c5,E a6 m6 c6,om]))∧Below w.heap.size w w':=by
 have HP:=Lib.hid (AM a b c hl);have HV:=Lib.hid (Ng a n p1 p2 p3 p4 p5 p6 p7 p8 p9 p10 hp a5 a6 m5 c5 m6 c6 h);simp only[bW,bi,bF,Bool.and_eq_true,and_true]at hp;clear hl h;go_enter Tryz.func431,Tryz.ntmps431;go_wp2_with fail;go_upto_region 12 with(fail);refine jg 3 [(105,21,_),(105,21,_),(105,21,_)] ?_;intro W8 HB d0 s0 _;have HB2:=Lib.hid (show Bx W8 w.heap.size [(105,21,#[I 6,Z,a,b,c,Z,Z,n,p1,p2,p3,p4,p5,p6,p7,p8,p9,p10,E a5 m5 c5,E a6 m6 c6,om]),(105,21,#[Z,Z,Z,Z,Z,Z,Z,Z,F,U,U,Z,F,Z,Z,Z,Z,Z,V,V,F])]from⟨HB.out.1,HB.out.2.1,trivial⟩);have fB:=HB.out;simp only[Bx,Bo]at fB;refine bA (ax (w.heap.size+1+1) W8) [0,1,3,4,5,6,7] 6 af af (fun _ _ d _ _ h=>bo) (ax.refl _ _).drew ?_;simp only[PL];apply ae;·exact xv
 try simp only[PT]
 apply ae;·exact xv
 try simp only[PT]
 apply ae;·exact xv
 try simp only[PT]
 apply ae;·exact xv
 try simp only[PT]
 apply ae;·exact xv
 try simp only[PT]
 apply ae;·exact xv
 try simp only[PT]
 apply ae;·exact xv
 try simp only[PT]
 refine aC ?_;refine aX 2 af af ?_;simp only[aU];go_wp2_with fail;refine(HP.out _).mono ?_;rintro e w1⟨rfl,hb⟩;have b1:Below W8.heap.size W8 w1:=aj hb (fk) (by first|exact Nat.le_refl _|omega|(show W8.heap.size≤_;simp;done)|exact b0.size);have HBk1:=cD b1 HB;have fBk1:=HBk1.out;simp only[Bx,Bo]at fBk1;have sk1:=b1.size;clear hb;go_wp2;refine am (pb) ?_;refine bb [9] 4 rfl af (fun _ _ d _ _ h=>bo) (pb) ?_;simp only[PL];apply ae;·exact xv
 try simp only[PT]
 refine aC ?_;refine aX 8 af af ?_;simp only[aU];go_wp2_with fail;refine(HV.out _).mono ?_;rintro e w2⟨rfl,hb⟩;have b2:Below W8.heap.size W8 w2:=aj hb (fk) (by first|exact Nat.le_refl _|omega|(show W8.heap.size≤_;simp;done)|exact b1.size);have HBk2:=cD b2 HB;have fBk2:=HBk2.out;simp only[Bx,Bo]at fBk2;have sk2:=b2.size;clear hb;go_wp2;refine am (pb) ?_;refine aX 10 af af ?_;simp only[aU];go_wp2_with fail;refine am (pb) ?_;refine bb [11] 1 rfl af (fun _ _ d _ _ h=>bo) (pb) ?_;simp only[PL];apply ae;·exact xv
 try simp only[PT]
 refine aC ?_;refine aX 12 af af ?_;simp only[aU];go_wp2_with fail;refine am (pb) ?_;refine cw af ?_;go_wp2;refine bodyPost_ret (v:=.agg #[I 6,Z,a,b,c,Z,Z,n,p1,p2,p3,p4,p5,p6,p7,p8,p9,p10,E a5 m5 c5,E a6 m6 c6,om]) (aN (t:=105) Tryz.results431 _ _ _ rfl ?_ ?_ fG j9) rfl ?_;·go_simp
 ·go_simp
 exact⟨rfl,Py⟩
end
theorem iT{p:Prop}(h:PQ p:=by have HT:=Lib.hid h;have hlt:=h.lt;have hn0:¬(w.heap.size=T):=aa;have hn1:¬(w.heap.size+1=T):=aa;have hn2:¬(w.heap.size+1+1=T):=aa;exact pq (And.intro HT (And.intro hlt (And.intro hn0 (And.intro hn1 hn2))))):p:=h
theorem zf{p:Prop}(h:PQ p:=by have HT:=Lib.hid h;have hlt:=h.lt;have HA:=Lib.hid (fun(L:List (Array Value))(W:World)(k:dh W T L)=>xF T L (#[I 7,Z,a,Z,Z,x,y,Z,F,U,U,Z,F,Z,Z,Z,Z,Z,V,V,om]) rfl (Nc a x y ha om) W k);exact pq (And.intro HT (And.intro hlt HA))):p:=h
theorem j7{p:Prop}(h:p:=by go_wp2_with(go_at_call 430;refine(HA.out _ _ (HT.out.below (JA))).mono ?_;rintro e w1⟨hu,rfl,hA⟩;obtain⟨x1,x2,x3,x4,x5,x6,x7,x8,x9,x10⟩:=g7 hu);exact bodyPost_end (results_none rfl _ _ _) rfl ⟨(ax.of_below (JA)).trans hu,rfl,hA⟩):p:=h
theorem gX{p:Prop}(h:p:=by go_wp2_with(go_at_call 430;refine(HA.out _ _ (HT.out.below (JA))).mono ?_;rintro e w1⟨hu,rfl⟩);exact⟨rfl,(ax.of_below (JA)).trans hu,rfl⟩):p:=h
structure dh(W:World)(T:Nat)(L:List (Array Value)):Prop where
 lt:T<W.heap.size
 fr:W.frozen? ⟨T,0,none⟩=false
 at':∃v,W.cell? ⟨T,0,none⟩=some v∧Sl W v 13 L∧∀b,v.ownBlock=some b→b<T
theorem dh.below{W W':World}{T:Nat}{L:List (Array Value)}(h:dh W T L)(hb:Below W.heap.size W W'):dh W' T L:=by obtain⟨h1,h2,v,h3,h4,h5⟩:=h;exact⟨Nat.lt_of_lt_of_le h1 hb.size,by rw[hb.frozen (p:=⟨T,0,none⟩) h1];exact h2,v,by rw[hb.cell (p:=⟨T,0,none⟩) h1];exact h3,h4.below hb,h5⟩
theorem dh.setRow{T:Nat}{L:List (Array Value)}{w:World}(h:dh w T L){g:Nat}(hg:T<g)(C:Array Value):dh (w.setRow g C) T L:=by obtain⟨h1,h2,v,h3,h4,h5⟩:=h;refine⟨by rw[cX];exact h1,by rw[nD _ _ _ _ (by show T≠g;omega)];exact h2,v,by rw[tr _ _ _ _ (by show T≠g;omega)];exact h3,h4.same (by rw[cX];exact Nat.le_refl _) fun b hb _=>aY _ _ _ _ (by have:=h5 b hb;omega),h5⟩
theorem dh.low{T B:Nat}{L:List (Array Value)}{W W':World}(h:dh W T L)(hT:T<B)(k:Below B W W'):dh W' T L:=by obtain⟨h1,h2,v,h3,h4,h5⟩:=h;exact⟨Nat.lt_of_lt_of_le h1 k.size,by unfold World.frozen?;rw[k.block T hT];exact h2,v,by rw[World.cell?_of_block (a:=⟨T,0,none⟩) (k.block T hT)];exact h3,h4.same k.size fun b hb _=>k.block b (by have:=h5 b hb;omega),h5⟩
theorem dh.cons{T:Nat}{C:Array Value}{r:List (Array Value)}{w:World}(h:dh w T (C::r)):C.size=13∧bB C=true:=by obtain⟨h1,h2,v,h3,h4,h5⟩:=h;exact⟨h4.sizes C ay,h4.ones C ay⟩
def j8(T:Nat)(L:List (Array Value))(O:Array Value)(ret:Array Value→Value)(w:World)(e:Ending)(w':World):Prop:=ax T w w'∧match L with
 |[]=>e= .panicked [{v:=jx O,recovered:=false}]
 |C::r=>e= .returned (ret C)∧dh w' T r
theorem xF(T:Nat)(L:List (Array Value))(O:Array Value)(hO:O.size=21)(hc:∀w,Calls Tryz.prog 431 #[.agg O] w fun e w'=>e= .returned (.agg O)∧Below w.heap.size w w')(w:World)(h:dh w T L):Calls Tryz.prog 430 #[H T 0,.agg O] w (j8 T L O (fun C=>.agg C) w):=by
 obtain⟨h1,h2,v,h3,h4,h5⟩:=h;obtain⟨a,cap,rfl,c1,c2,c3⟩:=h4;cases L with
  |nil=>exact(Jo T a cap O hO w h3 h1 hc).mono fun e w'⟨k1,k2⟩=>⟨ax.of_below k2,k1⟩
  |cons x r=>
   rcases c3 with⟨_,c3⟩|⟨g,o',rfl,hg,c3⟩;·simp at c3
   ·have hx:=c3 0 x rfl;simp only[Nat.zero_mul,Nat.add_zero]at hx;simp only[List.length_cons]at h3 c1;refine(FJ T ⟨g,o',none⟩ r.length cap O x w h3 h2 h1 c1 c2 hx.is hx.of hx.one (by have:=hx.of;have:=hx.is;exact hx.size) hg).mono fun e w'⟨k1,k2,a',cap',k3,k4,k5,k6,k7,k8⟩=>⟨k2,k1,?_⟩;have hgl:g<T:=h5 g rfl;have hgT:g≠T:=aa;refine⟨Nat.lt_of_lt_of_le h1 k2.size,k4,_,k3,⟨a',cap',rfl,k5,Nat.le_trans k6 c2,?_⟩,?_⟩;·
     cases r with
      |nil=>
       rcases k8 with rfl|rfl;·exact .inr ⟨g,o',rfl,Nat.lt_of_lt_of_le hg k2.size,fun i C hC=>by simp at hC⟩
       ·exact .inr ⟨g,o'+13,by rw[cF],Nat.lt_of_lt_of_le hg k2.size,fun i C hC=>by simp at hC⟩
      |cons y r=>refine .inr ⟨g,o'+13,by rw[k7 ay,cF],Nat.lt_of_lt_of_le hg k2.size,fun i C hC=>?_⟩;have:=c3 (i+1) C (by simpa using hC);rw[show o'+13+i*13=o'+(i+1)*13 by omega];exact this.block (k2.block g hg hgT)
    ·rcases k8 with rfl|rfl;·exact h5
     ·rw[cF];exact fun b e=>by simp only[Value.ownBlock,Option.some.injEq]at e;omega
theorem NC(T:Nat)(L:List (Array Value))(k:Int)(om:Bool)(w:World)(h:dh w T L):Calls Tryz.prog 425 #[H T 0,k,om] w (j8 T L (#[I 1,k,Z,Z,Z,Z,Z,Z,F,U,U,Z,F,Z,Z,Z,Z,Z,V,V,om]) (fun _=>.tuple #[]) w):=by
 obtain⟨HT,hlt,hn0,hn1,hn2⟩:=iT;have HA:=Lib.hid (fun(L:List (Array Value))(W:World)(kT:dh W T L)=>xF T L (#[I 1,k,Z,Z,Z,Z,Z,Z,F,U,U,Z,F,Z,Z,Z,Z,Z,V,V,om]) rfl (ru 1 k ay om) W kT);cases L with
  |nil=>clear h;go_enter Tryz.func425,Tryz.ntmps425;exact gX
  |cons C r=>obtain⟨hs,ho⟩:=h.cons;clear h;go_enter Tryz.func425,Tryz.ntmps425;exact j7
theorem Kk(T:Nat)(L:List (Array Value))(k:Int)(om:Bool)(w:World)(h:dh w T L):Calls Tryz.prog 427 #[H T 0,k,om] w (j8 T L (#[I 2,k,Z,Z,Z,Z,Z,Z,F,U,U,Z,F,Z,Z,Z,Z,Z,V,V,om]) (fun _=>.tuple #[]) w):=by
 obtain⟨HT,hlt,hn0,hn1,hn2⟩:=iT;have HA:=Lib.hid (fun(L:List (Array Value))(W:World)(kT:dh W T L)=>xF T L (#[I 2,k,Z,Z,Z,Z,Z,Z,F,U,U,Z,F,Z,Z,Z,Z,Z,V,V,om]) rfl (ru 2 k ay om) W kT);cases L with
  |nil=>clear h;go_enter Tryz.func427,Tryz.ntmps427;exact gX
  |cons C r=>obtain⟨hs,ho⟩:=h.cons;clear h;go_enter Tryz.func427,Tryz.ntmps427;exact j7
theorem NA(T:Nat)(L:List (Array Value))(k:Int)(om:Bool)(w:World)(h:dh w T L):Calls Tryz.prog 423 #[H T 0,k,om] w (j8 T L (#[I 3,k,Z,Z,Z,Z,Z,Z,F,U,U,Z,F,Z,Z,Z,Z,Z,V,V,om]) (fun _=>.tuple #[]) w):=by
 obtain⟨HT,hlt,hn0,hn1,hn2⟩:=iT;have HA:=Lib.hid (fun(L:List (Array Value))(W:World)(kT:dh W T L)=>xF T L (#[I 3,k,Z,Z,Z,Z,Z,Z,F,U,U,Z,F,Z,Z,Z,Z,Z,V,V,om]) rfl (ru 3 k ay om) W kT);cases L with
  |nil=>clear h;go_enter Tryz.func423,Tryz.ntmps423;exact gX
  |cons C r=>obtain⟨hs,ho⟩:=h.cons;clear h;go_enter Tryz.func423,Tryz.ntmps423;exact j7
theorem Nz(T:Nat)(L:List (Array Value))(k:Int)(om:Bool)(w:World)(h:dh w T L):Calls Tryz.prog 422 #[H T 0,k,om] w (j8 T L (#[I 4,k,Z,Z,Z,Z,Z,Z,F,U,U,Z,F,Z,Z,Z,Z,Z,V,V,om]) (fun _=>.tuple #[]) w):=by
 obtain⟨HT,hlt,hn0,hn1,hn2⟩:=iT;have HA:=Lib.hid (fun(L:List (Array Value))(W:World)(kT:dh W T L)=>xF T L (#[I 4,k,Z,Z,Z,Z,Z,Z,F,U,U,Z,F,Z,Z,Z,Z,Z,V,V,om]) rfl (ru 4 k ay om) W kT);cases L with
  |nil=>clear h;go_enter Tryz.func422,Tryz.ntmps422;exact gX
  |cons C r=>obtain⟨hs,ho⟩:=h.cons;clear h;go_enter Tryz.func422,Tryz.ntmps422;exact j7
theorem ND(T:Nat)(L:List (Array Value))(om:Bool)(w:World)(h:dh w T L):Calls Tryz.prog 426 #[H T 0,om] w (j8 T L (#[I 8,Z,Z,Z,Z,Z,Z,Z,F,U,U,Z,F,Z,Z,Z,Z,Z,V,V,om]) (fun _=>.tuple #[]) w):=by
 obtain⟨HT,hlt,hn0,hn1,hn2⟩:=iT;have HA:=Lib.hid (fun(L:List (Array Value))(W:World)(kT:dh W T L)=>xF T L (#[I 8,Z,Z,Z,Z,Z,Z,Z,F,U,U,Z,F,Z,Z,Z,Z,Z,V,V,om]) rfl (ru 8 0 ay om) W kT);cases L with
  |nil=>clear h;go_enter Tryz.func426,Tryz.ntmps426;exact gX
  |cons C r=>obtain⟨hs,ho⟩:=h.cons;clear h;go_enter Tryz.func426,Tryz.ntmps426;exact j7
theorem NB(T:Nat)(L:List (Array Value))(a b c:Int)(hl:Lc a b c)(om:Bool)(w:World)(h:dh w T L):Calls Tryz.prog 424 #[H T 0,.agg #[a,b,c],om] w (j8 T L (#[I 5,Z,a,b,c,Z,Z,Z,F,U,U,Z,F,Z,Z,Z,Z,Z,V,V,om]) (fun C=>.agg C) w):=by
 obtain⟨HT,hlt,hn0,hn1,hn2⟩:=iT;have HA:=Lib.hid (fun(L:List (Array Value))(W:World)(kT:dh W T L)=>xF T L (#[I 5,Z,a,b,c,Z,Z,Z,F,U,U,Z,F,Z,Z,Z,Z,Z,V,V,om]) rfl (Na a b c hl om) W kT);cases L with
  |nil=>clear h;go_enter Tryz.func424,Tryz.ntmps424;exact gX
  |cons C r=>obtain⟨hs,ho⟩:=h.cons;clear h;go_enter Tryz.func424,Tryz.ntmps424;go_wp2_with(go_at_call 430;refine(HA.out _ _ (HT.out.below (JA))).mono ?_;rintro e w1⟨hu,rfl,hA⟩;obtain⟨x1,x2,x3,x4,x5,x6,x7,x8,x9,x10⟩:=g7 hu);exact bodyPost_ret (v:=.agg _) (aN (t:=103) Tryz.results424 _ _ _ rfl jc jc cy ea) rfl ⟨fD ((ax.of_below (JA)).trans hu) ay _,rfl,hA.setRow aa _⟩
theorem wD(T:Nat)(L:List (Array Value))(a b c n:Int)(hl:Lc a b c)(p1 p2 p3 p4 p5 p6 p7 p8 p9 p10:Value)(hp:bB #[p1,p2,p3,p4,p5,p6,p7,p8,p9,p10]=true)(a5 a6:Option Addr)(m5 c5 m6 c6:Nat)(hv:(a=4∧n=0∧#[p1,p2,p3,p4,p5,p6,p7,p8,p9,p10]=zP∧a5=none∧m5=0∧c5=0)∨(a=5∧#[p1,p2,p3,p4,p5,p6,p7,p8,p9,p10]=zP∧a5=none∧m5=0∧c5=0∧a6=none∧m6=0∧c6=0)∨(a=6∧n=0∧a5=none∧m5=0∧c5=0∧a6=none∧m6=0∧c6=0))(om:Bool)(w:World)(h:dh w T L):Calls Tryz.prog 428 #[H T 0,.agg #[a,b,c],.agg #[n,p1,p2,p3,p4,p5,p6,p7,p8,p9,p10,E a5 m5 c5,E a6 m6 c6],om] w (j8 T L (#[I 6,Z,a,b,c,Z,Z,n,p1,p2,p3,p4,p5,p6,p7,p8,p9,p10,E a5 m5 c5,E a6 m6 c6,om]) (fun _=>.tuple #[]) w):=by
 obtain⟨HT,hlt,hn0,hn1,hn2⟩:=iT;have HA:=Lib.hid (fun(L:List (Array Value))(W:World)(kT:dh W T L)=>xF T L (#[I 6,Z,a,b,c,Z,Z,n,p1,p2,p3,p4,p5,p6,p7,p8,p9,p10,E a5 m5 c5,E a6 m6 c6,om]) rfl (Nb a b c n hl p1 p2 p3 p4 p5 p6 p7 p8 p9 p10 hp a5 a6 m5 c5 m6 c6 hv om) W kT);clear hl hv;simp only[bW,bi,bF,Bool.and_eq_true,and_true]at hp;cases L with
  |nil=>clear h;go_enter Tryz.func428,Tryz.ntmps428;exact gX
  |cons C r=>obtain⟨hs,ho⟩:=h.cons;clear h;go_enter Tryz.func428,Tryz.ntmps428;exact j7
theorem sq(T:Nat)(a x y:Int)(ha:a=1∨a=2)(om:Bool)(w:World)(h:dh w T []):Calls Tryz.prog 429 #[H T 0,.agg #[a,Z,Z],x,y,om] w fun e w'=>ax T w w'∧e= .panicked [{v:=jx (#[I 7,Z,a,Z,Z,x,y,Z,F,U,U,Z,F,Z,Z,Z,Z,Z,V,V,om]),recovered:=false}]:=by obtain⟨HT,hlt,HA⟩:=zf;clear h;go_enter Tryz.func429,Tryz.ntmps429;exact gX
theorem GR(T:Nat)(a x y n:Int)(ha:a=1∨a=2)(om:Bool)(v2 v3 v4 v5 v6 v7 v8 v9 v10 v11 v12 v13:Value)(r:List (Array Value))(w:World)(h:dh w T ((#[n,v2,v3,v4,v5,v6,v7,v8,v9,v10,v11,v12,v13]:AV)::r)):Calls Tryz.prog 429 #[H T 0,.agg #[a,Z,Z],x,y,om] w fun e w'=>ax T w w'∧e= .returned (.bool (n==1))∧dh w' T r:=by obtain⟨HT,hlt,HA⟩:=zf;have hfd:=fun(w:World)=>nf n v2 v3 v4 v5 v6 v7 v8 v9 v10 v11 v12 v13 w;clear h;go_enter Tryz.func429,Tryz.ntmps429;go_wp2_with(go_at_call 430;refine(HA.out _ _ (HT.out.below (JA))).mono ?_;rintro e w1⟨hu,rfl,hA⟩;obtain⟨x1,x2,x3,x4,x5,x6,x7,x8,x9,x10⟩:=g7 hu);go_ret;exact⟨(ax.of_below (JA)).trans hu,rfl,hA⟩
section
attribute[go_sem]mf kf kv i9 ma kc l9 ka mc ke kw ja mg kg nf se sf
theorem Nl(x0 x1 x2 x3 x4 x5 x6 x7 x8 x9 x10 x11 x12:Value)(w:World):(Instr.field 103 (.agg #[x0,x1,x2,x3,x4,x5,x6,x7,x8,x9,x10,x11,x12]) 3).run Tryz.prog w= .ok (x12) w:=af
attribute[go_sem]Nl
structure ft(R:Nat→Prop)(W:World)(T:Nat)(vs:List Vl):Prop where
 nT:¬R T
 c:∃L,dh W T L∧i5 (jD R) W L vs
section
variable{R:Nat→Prop}{W W':World}{T:Nat}{vs:List Vl}
theorem ft.lt(h:ft R W T vs):T<W.heap.size:=by obtain⟨-,L,h,-⟩:=h;exact h.lt
theorem ft.below(h:ft R W T vs)(k:Below W.heap.size W W'):ft R W' T vs:=by obtain⟨h1,L,h2,h3⟩:=h;exact⟨h1,L,h2.below k,h3.keep cM (Kp.below k) fun _ h=>h⟩
theorem ft.nil(h:ft R W T []):dh W T []:=by obtain⟨-,L,h2,h3⟩:=h;have:L=[]:=List.eq_nil_of_length_eq_zero h3.1;subst this;exact h2
theorem ft.cons{v:Vl}(h:ft R W T (v::vs)):∃C L,dh W T (C::L)∧jD R W C v∧i5 (jD R) W L vs:=by
 obtain⟨-,L,h2,h3⟩:=h;cases L with
  |nil=>have:=h3.1;simp at this
  |cons C L=>exact⟨C,L,h2,h3.2 0 C v rfl rfl,by have:=h3.1;simpa using this,fun i D x hD hx=>h3.2 (i+1) D x (by simpa using hD) (by simpa using hx)⟩
def Pz(R:Nat→Prop)(B:Nat)(os:List Oq)(k:Nat)(e:Ending)(w':World):Prop:=∃o O,os[k]? =some o∧e= .panicked [{v:=jx O,recovered:=false}]∧xq (Rn R B) w' O o
def Qj(B:Nat)(R:Nat→Prop)(T:Nat)(m:Mm)(os l:List Oq)(k:Nat)(ret:Value→World→Prop)(w:World)(e:Ending)(w':World):Prop:=ax T w w'∧(Pz R B os k e w'∨∃k',k=os.length+k'∧∃v,e= .returned v∧ret v w'∧ft R w' T ((ej (cx m os) l).take k'))
abbrev Cd(R:Nat→Prop)(T:Nat)(m:Mm)(os l:List Oq)(k:Nat)(ret:Value→World→Prop)(w:World)(e:Ending)(w':World):Prop:=Qj w.heap.size R T m os l k ret w e w'
theorem Pz.mono{B B':Nat}{os:List Oq}{k:Nat}{e:Ending}{w':World}(h:Pz R B os k e w')(hB:B'≤B):Pz R B' os k e w':=by obtain⟨o,O,h1,h2,h3⟩:=h;exact⟨o,O,h1,h2,fb h3 (Kp.below (Below.refl _ _)) fun q hq=>hq.imp id fun h=>Nat.le_trans hB h⟩
theorem Pz.left{B:Nat}{a b:List Oq}{k:Nat}{e:Ending}{w':World}(h:Pz R B a k e w'):Pz R B (a++b) k e w':=by obtain⟨o,O,h1,h2⟩:=h;exact⟨o,O,by rw[List.getElem?_append_left (List.getElem?_eq_some_iff.1 h1).1];exact h1,h2⟩
theorem Pz.right{B:Nat}{a b:List Oq}{k:Nat}{e:Ending}{w':World}(h:Pz R B b k e w'):Pz R B (a++b) (a.length+k) e w':=by obtain⟨o,O,h1,h2⟩:=h;exact⟨o,O,by rw[List.getElem?_append_right aa,show a.length+k-a.length=k by omega];exact h1,h2⟩
theorem nV{Fx:Nat}{args:Array Value}{O:Array Value}{rf:Array Value→Value}{m:Mm}{o:Oq}{l:List Oq}{k B:Nat}{w:World}(hA:∀L,dh w T L→Calls Tryz.prog Fx args w (j8 T L O rf w))(hO:∀w',ax T w w'→xq (Rn R B) w' O o)(h:ft R w T ((ej m (o::l)).take k)):Calls Tryz.prog Fx args w (Qj B R T m [o] l k (fun v w'=>∃C,v=rf C∧jD R w' C (fW m o)) w):=by
 cases k with
  |zero=>rw[List.take_zero]at h;exact(hA [] h.nil).mono fun e w'⟨h1,h2⟩=>⟨h1,.inl ⟨o,O,rfl,h2,hO w' h1⟩⟩
  |succ k=>have hn:=h.nT;simp only[ej,List.take_succ_cons]at h;obtain⟨C,L,h1,h2,h3⟩:=h.cons;refine(hA _ h1).mono fun e w'⟨k1,k2,k3⟩=>⟨k1,.inr ⟨k,FZ,_,k2,⟨C,rfl,cM h2 (Kp.upto k1 hn) fun _ h=>h⟩,hn,L,k3,h3.keep cM (Kp.upto k1 hn) fun _ h=>h⟩⟩
theorem I8{R:Nat→Prop}{W:World}:jD R W #[Z,F,U,U,Z,F,Z,Z,Z,Z,Z,V,V] zV:=⟨_,_,rfl,rfl,rfl,rfl,rfl⟩
theorem va{R:Nat→Prop}{W:World}(k j a b c:Int)(mk:Bool):xq R W #[k,j,a,b,c,Z,Z,Z,F,U,U,Z,F,Z,Z,Z,Z,Z,V,V,mk] ⟨k,j,a,b,c,0,0,zV,mk⟩:=⟨_,rfl,I8⟩
theorem fq{R:Nat→Prop}{W:World}{C:Array Value}{v:Vl}(h:jD R W C v):∃v2 v3 v4 v5 v6 v7 v8 v9 v10 v11:Value,∃(a5:Option Addr)(m5 c5:Nat)(a6:Option Addr)(m6 c6:Nat),C=(#[v.n,v2,v3,v4,v5,v6,v7,v8,v9,v10,v11,E a5 m5 c5,E a6 m6 c6]:AV)∧v.p=#[v2,v3,v4,v5,v6,v7,v8,v9,v10,v11]∧(v2.oneCell'=true∧v3.oneCell'=true∧v4.oneCell'=true∧v5.oneCell'=true∧v6.oneCell'=true∧v7.oneCell'=true∧v8.oneCell'=true∧v9.oneCell'=true∧v10.oneCell'=true∧v11.oneCell'=true)∧So R W (E a5 m5 c5) 5 v.bn∧So R W (E a6 m6 c6) 7 v.bk:=by obtain⟨sb,sk,rfl,h1,h2,h3,h4⟩:=h;obtain⟨a5,m5,c5,rfl⟩:=h3.shape;obtain⟨a6,m6,c6,rfl⟩:=h4.shape;obtain⟨v2,v3,v4,v5,v6,v7,v8,v9,v10,v11,e,ho⟩:=wj h1 h2;exact⟨v2,v3,v4,v5,v6,v7,v8,v9,v10,v11,a5,m5,c5,a6,m6,c6,ro,e,ho,h3,h4⟩
end
section
variable{R:Nat→Prop}{T:Nat}{m:Mm}{l:List Oq}{k:Nat}{w:World}
theorem wh(j:Int)(mk:Bool)(h:ft R w T ((ej m (cW 1 j mk::l)).take k)):Calls Tryz.prog 425 #[H T 0,j,mk] w (Cd R T m [cW 1 j mk] l k (fun v w'=>∃C,v= .tuple #[]∧jD R w' C (fW m (cW 1 j mk))) w):=nV (fun L hL=>NC T L j mk w hL) (fun _ _=>va 1 j 0 0 0 mk) h
theorem wi(j:Int)(mk:Bool)(h:ft R w T ((ej m (cW 2 j mk::l)).take k)):Calls Tryz.prog 427 #[H T 0,j,mk] w (Cd R T m [cW 2 j mk] l k (fun v w'=>∃C,v= .tuple #[]∧jD R w' C (fW m (cW 2 j mk))) w):=nV (fun L hL=>Kk T L j mk w hL) (fun _ _=>va 2 j 0 0 0 mk) h
theorem wg(j:Int)(mk:Bool)(h:ft R w T ((ej m (cW 3 j mk::l)).take k)):Calls Tryz.prog 423 #[H T 0,j,mk] w (Cd R T m [cW 3 j mk] l k (fun v w'=>∃C,v= .tuple #[]∧jD R w' C (fW m (cW 3 j mk))) w):=nV (fun L hL=>NA T L j mk w hL) (fun _ _=>va 3 j 0 0 0 mk) h
theorem Az(j:Int)(mk:Bool)(h:ft R w T ((ej m (cW 4 j mk::l)).take k)):Calls Tryz.prog 422 #[H T 0,j,mk] w (Cd R T m [cW 4 j mk] l k (fun v w'=>∃C,v= .tuple #[]∧jD R w' C (fW m (cW 4 j mk))) w):=nV (fun L hL=>Nz T L j mk w hL) (fun _ _=>va 4 j 0 0 0 mk) h
theorem M1(h:ft R w T ((ej m (Bh::l)).take k)):Calls Tryz.prog 426 #[H T 0,Y] w (Cd R T m [Bh] l k (fun v w'=>∃C,v= .tuple #[]∧jD R w' C (fW m Bh)) w):=nV (fun L hL=>ND T L true w hL) (fun _ _=>va 8 0 0 0 0 true) h
theorem g9(a b c:Int)(hl:Lc a b c)(h:ft R w T ((ej m (dI a b c::l)).take k)):Calls Tryz.prog 424 #[H T 0,.agg #[a,b,c],F] w (Cd R T m [dI a b c] l k (fun v w'=>∃C,v= .agg C∧jD R w' C (fW m (dI a b c))) w):=nV (fun L hL=>NB T L a b c hl false w hL) (fun _ _=>va 5 0 a b c false) h
theorem M4(n:Int)(h:ft R w T ((ej m (yJ n::l)).take k)):Calls Tryz.prog 429 #[H T 0,.agg #[I 2,Z,Z],n,I (n+1),Y] w (Cd R T m [yJ n] l k (fun v w'=>v= .bool ((fW m (yJ n)).n==1)) w):=by
 cases k with
  |zero=>rw[List.take_zero]at h;exact(sq T 2 n (n+1) (.inr rfl) true w h.nil).mono fun e w'⟨h1,h2⟩=>⟨h1,.inl ⟨yJ n,_,rfl,h2,_,rfl,I8⟩⟩
  |succ k=>have hn:=h.nT;simp only[ej,List.take_succ_cons]at h;obtain⟨C,L,h1,h2,h3⟩:=h.cons;obtain⟨v2,v3,v4,v5,v6,v7,v8,v9,v10,v11,a5,m5,c5,a6,m6,c6,rfl,-⟩:=fq h2;exact(GR T 2 n (n+1) _ (.inr rfl) true _ _ _ _ _ _ _ _ _ _ _ _ _ w h1).mono fun e w'⟨k1,k2,k3⟩=>⟨k1,.inr ⟨k,FZ,_,k2,rfl,hn,L,k3,h3.keep cM (Kp.upto k1 hn) fun _ h=>h⟩⟩
theorem JI(B:Nat)(L:List (Array Value))(v:Value)(a:Option Addr)(m6 c6:Nat)(hv:v= .slice a m6 c6)(hs:Sr (Rn R B) w v 7 L)(hT:v.ownBlock≠some T)(h:ft R w T ((ej m (Fh (some L)::l)).take k)):Calls Tryz.prog 428 #[H T 0,.agg #[I 4,Z,Z],.agg #[Z,F,U,U,Z,F,Z,Z,Z,Z,Z,V,E a m6 c6],F] w (Qj B R T m [Fh (some L)] l k (fun v w'=>∃C,v= .tuple #[]∧jD R w' C (fW m (Fh (some L)))) w):=by subst hv;have hA:=fun(L:List (Array Value))(hL:dh w T L)=>wD T L 4 0 0 0 (.inl ⟨.inr (.inr (.inr rfl)),rfl,rfl⟩) F U U Z F Z Z Z Z Z rfl none a 0 0 m6 c6 (.inl ⟨rfl,rfl,rfl,rfl,rfl,rfl⟩) false w hL;refine nV hA (fun w' hu=>?_) h;exact⟨#[Z,F,U,U,Z,F,Z,Z,Z,Z,Z,V,E a m6 c6],rfl,V,E a m6 c6,rfl,rfl,rfl,rfl,hs.1.same hu.size fun b hb hl=>hu.block b hl fun e=>hT (e▸hb),hs.2⟩
end
end
section
attribute[local go_sem high]ah
attribute[local simp high]ah
theorem Q1(fn:Fn)(first cap:Array Value)(w:World):(Instr.makeFunc fn first cap).run Tryz.prog w= .ok (.func fn first cap) w:=rfl
theorem Gb{C:Array Value}(hn:C.size=8)(h1:bB C=true):∃v1 v2 v3 v4 v5 v6 v7 v8:Value,C=#[v1,v2,v3,v4,v5,v6,v7,v8]∧v1.oneCell'=true∧v2.oneCell'=true∧v3.oneCell'=true∧v4.oneCell'=true∧v5.oneCell'=true∧v6.oneCell'=true∧v7.oneCell'=true∧v8.oneCell'=true:=by
 obtain⟨l⟩:=C;match l,hn with
  |[v1,v2,v3,v4,v5,v6,v7,v8],_=>simp only[bW,bi,bF,Bool.and_eq_true,and_true]at h1;exact⟨v1,v2,v3,v4,v5,v6,v7,v8,rfl,h1⟩
def LO(R:Nat→Prop)(Tu':Tu)(w:World)(T:Nat)(e:Ending)(w':World):Prop:=ax T w w'∧match Tu' with
 | .op o=>∃O,e= .panicked [{v:=jx O,recovered:=false}]∧xq (Rn R w.heap.size) w' O o
 | .done Q=>∃C,e= .returned (.agg C)∧C.size=8∧bB C=true∧Q C
theorem GX{w:World}(Fx:Nat)(hF:∀args w,(callFunc Fx args).run Tryz.prog w= .ok (.enter Fx args) w)(D:Array Value)(R:Nat→Prop)(hR:∀q,R q→q<w.heap.size)(gs:List Vl)(vg:Value)(hg:Se jD R w vg 13 gs)(Tu':Tu)(hC:∀W T,w.heap.size≤T→Below w.heap.size w W→ft R W T gs→Calls Tryz.prog Fx #[.agg D,.iface 280 (H T 0)] W (LO R Tu' W T)):Calls Tryz.prog 135 #[.func (.func Fx) #[.agg D] #[],vg] w fun e w'=>∃DD,e= .returned (.agg DD)∧xB (Rn R w.heap.size) w' DD Tu'∧Below w.heap.size w w':=by
 have hm:=Q1;obtain⟨L,⟨hsl,hown⟩,hels⟩:=hg;obtain⟨a,cap,rfl,-⟩:=id hsl;have HS:=Lib.hid hsl;have HO:=Lib.hid (fun q hq=>hR q (hown q hq));have HE:=Lib.hid hels;have HR:=Lib.hid hR;have HC:=Lib.hid hC;clear hsl hown hels hR hC;go_enter_defers Tryz.func135,Tryz.ntmps135;go_wp2_with fail;have HT:dh ((w.alloc (.cells (#[Z,Z,Z,Z,Z,Z,Z,Z,F,U,U,Z,F,Z,Z,Z,Z,Z,V,V,F,Z,F,U,U,Z,Z,Z,V,F,F]) 198)).alloc (.cells #[E a L.length cap] 282)) (w.heap.size+1) L:=by refine⟨ay,dq,E a L.length cap,dq,HS.out.below cb,fun b hb=>?_⟩;have:=HO.out b hb;omega
 have HBx:=Lib.hid (show Below w.heap.size w ((w.alloc (.cells (#[Z,Z,Z,Z,Z,Z,Z,Z,F,U,U,Z,F,Z,Z,Z,Z,Z,V,V,F,Z,F,U,U,Z,Z,Z,V,F,F]) 198)).alloc (.cells #[E a L.length cap] 282))from cb);have HB:=Lib.hid (dY:Bx ((w.alloc (.cells (#[Z,Z,Z,Z,Z,Z,Z,Z,F,U,U,Z,F,Z,Z,Z,Z,Z,V,V,F,Z,F,U,U,Z,Z,Z,V,F,F]) 198)).alloc (.cells #[E a L.length cap] 282)) w.heap.size [(198,31,#[Z,Z,Z,Z,Z,Z,Z,Z,F,U,U,Z,F,Z,Z,Z,Z,Z,V,V,F,Z,F,U,U,Z,Z,Z,V,F,F])]);have HTV:=Lib.hid (show ft R ((w.alloc (.cells (#[Z,Z,Z,Z,Z,Z,Z,Z,F,U,U,Z,F,Z,Z,Z,Z,Z,V,V,F,Z,F,U,U,Z,Z,Z,V,F,F]) 198)).alloc (.cells #[E a L.length cap] 282)) (w.heap.size+1) gs from⟨fun e=>by have:=HR.out _ e;omega,L,HT,HE.out.keep cM (Kp.below HBx.out) fun _ h=>h⟩);have sB:((w.alloc (.cells (#[Z,Z,Z,Z,Z,Z,Z,Z,F,U,U,Z,F,Z,Z,Z,Z,Z,V,V,F,Z,F,U,U,Z,Z,Z,V,F,F]) 198)).alloc (.cells #[E a L.length cap] 282)).heap.size=w.heap.size+2:=ay;clear HT;generalize((w.alloc (.cells (#[Z,Z,Z,Z,Z,Z,Z,Z,F,U,U,Z,F,Z,Z,Z,Z,Z,V,V,F,Z,F,U,U,Z,Z,Z,V,F,F]) 198)).alloc (.cells #[E a L.length cap] 282))=WB at*;refine(HC.out WB (w.heap.size+1) aa HBx.out HTV.out).mono ?_;intro e w1 ht;obtain⟨hu,ht⟩:=ht;have HB1:=Lib.hid (Bx.upto hu HB.out (.inr ay));have b5:Below w.heap.size w w1:=HBx.out.trans (hu.below aa aa);have s1:=hu.size;have f1:=HB1.out;simp only[Bx,Bo]at f1;cases Tu' with
  |op o=>
   obtain⟨O,rfl,hO⟩:=ht;go_wp2;refine leaves_cons (f:=187) (args:=#[H w.heap.size 0]) ay dq ?_;refine(yc w.heap.size O hO.size hO.ones [] _ f1.1.1).mono ?_;rintro e u' w2⟨rfl,rfl,rfl⟩;have ht1:=qm hO.size;refine⟨_,aN (t:=198) (C:=kR O) Tryz.results135 _ _ w.heap.size rfl ?_ ?_ kr Ao,kR O,rfl,⟨O,#[Z,F,U,U,Z,Z,Z,V],rfl,?_,rfl,rfl⟩,?_⟩;·rw[iJ _ _ _ _ _ pJ];exact fd _ f1.1.1 ht1
   ·rw[gJ _ _ _ pJ];exact fa _ f1.1.2.2.1
   ·exact fb (R:=Rn R WB.heap.size) hO ((Kp.setRow (T:=w.heap.size) (by rintro(h|h);exact absurd (HR.out _ h) aa;omega)).trans (Kp.below ((Below.refl _ _).alloc (Nat.le_refl _) _))) fun q h=>h.imp id fun h=>aa
   ·exact(ai b5 (Nat.le_refl _) _).alloc pJ _
  |done Q=>
   obtain⟨C,rfl,hn,h1,hq⟩:=ht;obtain⟨v1,v2,v3,v4,v5,v6,v7,v8,rfl,ho⟩:=Gb hn h1;have hq:=Lib.hid (And.intro h1 hq);clear hn h1 hu;go_wp2;refine leaves_cons (f:=187) (args:=#[H w.heap.size 0]) ay dq ?_;refine(AD w.heap.size _).mono ?_;rintro e u' w2⟨rfl,rfl,rfl⟩;refine⟨_,aN (t:=198) (C:=#[Z,Z,Z,Z,Z,Z,Z,Z,F,U,U,Z,F,Z,Z,Z,Z,Z,V,V,F,v1,v2,v3,v4,v5,v6,v7,v8,Y,F]) Tryz.results135 _ _ w.heap.size rfl ?_ ?_ kr Ao,_,rfl,⟨#[Z,Z,Z,Z,Z,Z,Z,Z,F,U,U,Z,F,Z,Z,Z,Z,Z,V,V,F],#[v1,v2,v3,v4,v5,v6,v7,v8],rfl,rfl,rfl,rfl,hq.out.1,hq.out.2⟩,?_⟩;·exact fd _ f1.1.1 rfl
   ·exact fa _ f1.1.2.2.1
   ·exact ai b5 (Nat.le_refl _) _
end
end Go.Proofs.YtnncjbkepakgpaaGreat
