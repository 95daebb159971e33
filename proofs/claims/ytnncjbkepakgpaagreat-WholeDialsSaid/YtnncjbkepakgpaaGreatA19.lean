/- A TREE THAT HAS A SUBNET, TOO. A SUBNET's NUMBER. THE LIBRARY's CONTRACTS OF slices.Insert, BinarySearch, DeleteFunc AT []int: the program bears these bodies. -/
import Derived.Test.YtnncjbkepakgpaaGreatA18
import Derived.Shelf.Spec.SlicesInsertGrow
import Derived.Shelf.Slices.SearchI
import Derived.Shelf.SlicesE.DeleteFunc
namespace Go.Proofs.YtnncjbkepakgpaaGreat
open Go.RowKit Qv
set_option linter.unusedVariables false
set_option linter.unusedSimpArgs false
set_option maxRecDepth 100000
set_option maxHeartbeats 1000000
section
attribute[local go_sem high]ah
attribute[local simp high]ah
theorem vx{p:Prop}(h:PQ p:=by have HY:=Lib.hid (show Bo w2 w1.heap.size 344 8 #[m.s,J m.h,J m.l,m.b,mx,mh,v0,v1]from((dY:Bx (w1.alloc (.cells #[m.s,J m.h,J m.l,m.b,mx,mh,v0,v1] 344)) w1.heap.size [(344,8,#[m.s,J m.h,J m.l,m.b,mx,mh,v0,v1])]).1).below hb ay);have k2:Below w1.heap.size w1 w2:=(((Below.refl _ _).alloc (Nat.le_refl _) (.cells #[m.s,J m.h,J m.l,m.b,mx,mh,v0,v1] 344))).trans (hb.mono ay);have d2:Below w.heap.size w w2:=d1.trans (k2.mono aa);have HB2:=cD k2 HB1;have ho3:=Lib.hid (ho2.out.below k2 aa);have s2:w1.heap.size<w2.heap.size:=HY.out.2.2.2.1;exact pq (And.intro HY (And.intro k2 (And.intro d2 (And.intro HB2 (And.intro ho3 s2)))))):p:=h
theorem mA{p:Prop}(h:PQ p:=by have ho1:=Lib.hid (ho.below d0 hgm);have HF:=Lib.hid (fun(W:World)(hS:(aw WB) W)=>And.intro (Bx.mono hS.out HB.out aF) (ho1.out.below hS.out aa));exact pq (And.intro ho1 HF)):p:=h
theorem mB{p:Prop}(h:PQ p:=by have d1:Below w.heap.size w w1:=d0.trans (hk1.out.mono aa);have HB1:=Lib.hid (Bx.mono hk1.out HB.out aF);have ho2:=Lib.hid (ho1.out.below hk1.out aa);exact pq (And.intro d1 (And.intro HB1 ho2))):p:=h
theorem ax.toBelow{T B:Nat}{W W':World}(h:ax T W W')(hT:B≤T)(hB:B≤W.heap.size):Below B W W':=⟨h.os,h.tape,h.output,h.size,fun k hk=>h.block k aa aa⟩
theorem D1{R:Nat→Prop}(B:Nat)(m n:Nt)(mx v:Int)(mh:Bool)(k0 k1:Tn)(p:Value)(g:Nat)(w:World)(hB:B≤w.heap.size)(hR:∀q,R q→q<B)(h:fJ R w p (.node m mx mh k0 k1))(hn:jB n)(hl:Bo w g 344 8 #[n.s,J n.h,J n.l,n.b,v,Y,(.pointer none),(.pointer none)])(hg:B≤g)(i:Int)(hi:Rg i):Calls Tryz.prog 301 #[p,H g 0,i] w fun e w'=>∃p',e= .returned p'∧fJ (Rn R B) w' p' (kj (.node m mx mh k0 k1) m n v i)∧Below B w w':=by
 have h0:=h;obtain⟨hm,gm,v0,v1,rfl,hgm,ho,o1,o2,t0,t1⟩:=h;have ho':Bo w gm 344 8 #[m.s,J m.h,J m.l,m.b,mx,mh,v0,v1]:=ho;have kk:∀{W:World},Below B w W→Kp R w W:=fun k=>⟨k.size,fun q hq _=>k.block q (hR q hq)⟩;by_cases he:i=n.b;·
  refine(DY B m n mx v mh v0 v1 g gm w hm hn ho' hl (hR gm hgm) hg i hi he).mono ?_;rintro e w'⟨rfl,hb,hu⟩;have kB:Below B w w':=hu.toBelow hg hB;have hold:=h0.keep (R':=Rn R B) (kk kB) fun _ h=>.inl h;refine⟨_,rfl,?_,kB⟩;unfold kj t7;rw[if_pos he];by_cases hr:jE m i=0;·rw[if_pos hr]at hb⊢;exact⟨hn,g,_,_,rfl,.inr hg,hb,rfl,rfl,hold,rfl⟩
  ·rw[if_neg hr]at hb⊢;exact⟨hn,g,_,_,rfl,.inr hg,hb,rfl,rfl,rfl,hold⟩
 ·refine(DZ B m n mx v mh v0 v1 g gm w hm hn ho' hl (hR gm hgm) hg i hi he).mono ?_;rintro e w'⟨x,rfl,hx,hb,hbl⟩;have kB:Below B w w':=hbl.mono hB;have hold:=h0.keep (R':=Rn R B) (kk kB) fun _ h=>.inl h;have hlf:fJ (Rn R B) w' (H g 0) (.node n v true .nil .nil):=⟨hn,g,_,_,rfl,.inr hg,hl.below hbl hl.2.2.2.1,rfl,rfl,rfl,rfl⟩;have hp:=K7 n hn i;have hxB:Rn R B x:=.inr aa;refine⟨_,rfl,?_,kB⟩;unfold kj t7;rw[if_neg he];by_cases hr2:jE n i=0<;>by_cases hr1:jE m i=0;·rw[if_pos hr2,if_pos hr1]at hb;simp only[if_pos hr2,if_pos hr1];exact⟨hp,x,_,_,rfl,hxB,hb,rfl,rfl,hlf,rfl⟩
  ·rw[if_pos hr2,if_neg hr1]at hb;simp only[if_pos hr2,if_neg hr1];exact⟨hp,x,_,_,rfl,hxB,hb,rfl,rfl,hlf,hold⟩
  ·rw[if_neg hr2,if_pos hr1]at hb;simp only[if_neg hr2,if_pos hr1];exact⟨hp,x,_,_,rfl,hxB,hb,rfl,rfl,hold,hlf⟩
  ·rw[if_neg hr2,if_neg hr1]at hb;simp only[if_neg hr2,if_neg hr1];exact⟨hp,x,_,_,rfl,hxB,hb,rfl,rfl,rfl,hlf⟩
theorem JX(m n:Nt)(hm:jB m)(hn:jB n)(w:World):Calls Tryz.prog 300 #[.agg #[m.s,J m.h,J m.l,m.b],.agg #[n.s,J n.h,J n.l,n.b]] w fun e w'=>e= .returned (I (nW m n))∧Below w.heap.size w w':=Nd m.s m.h m.l m.b n.s n.h n.l n.b hm.2.2 hn.2.2 w
theorem tH(n:Nt)(v:Int)(m:Nt)(x:Int)(has:Bool)(k0 k1:Tn):lU n v (.node m x has k0 k1)=if nW m n<m.b then kj (.node m x has k0 k1) m n v (nW m n)else if nW m n=n.b then .node n v true k0 k1 else if jE n (nW m n)=0 then .node m x has (lU n v k0) k1 else .node m x has k0 (lU n v k1):=by rw[lU]
theorem qY(n:Nt)(hn:jB n)(v:Int):∀(t:Tn){R:Nat→Prop}(p:Value)(w:World),fJ R w p t→Calls Tryz.prog 279 #[p,.agg #[n.s,J n.h,J n.l,n.b,v]] w fun e w'=>∃p',e= .returned p'∧fJ (Rn R w.heap.size) w' p' (lU n v t)∧Below w.heap.size w w'
 | .nil,R,p,w,h=>by obtain rfl:p= .pointer none:=h;go_enter Tryz.func279,Tryz.ntmps279;go_wp2;go_ret;exact⟨_,rfl,⟨hn,_,_,_,rfl,.inr ay,(dY:Bx ((w.alloc (.cells #[n.s,J n.h,J n.l,n.b,v] 288)).alloc (.cells #[n.s,J n.h,J n.l,n.b,v,Y,(.pointer none),(.pointer none)] 344)) (w.heap.size+1) [(344,8,#[n.s,J n.h,J n.l,n.b,v,Y,(.pointer none),(.pointer none)])]).1,rfl,rfl,rfl,rfl⟩,bY⟩
 | .node m mx mh k0 k1,R,p,w,h=>by
  have h0:=h.cut;have h:=h.cut;have IH0:=Lib.hid (fun(W:World){R:Nat→Prop}{p:Value}(h:fJ R W p k0)=>qY n hn v k0 p W h);have IH1:=Lib.hid (fun(W:World){R:Nat→Prop}{p:Value}(h:fJ R W p k1)=>qY n hn v k1 p W h);obtain⟨hm,gm,v0,v1,rfl,⟨-,hgm⟩,ho,o1,o2,t0,t1⟩:=h;replace ho:Bo w gm 344 8 #[m.s,J m.h,J m.l,m.b,mx,mh,v0,v1]:=ho;have HCm:=Lib.hid (fun(W:World)=>JX m n hm hn W);obtain⟨hi,hb1,hb2⟩:=JY m n hm hn;rw[tH];generalize nW m n=i at*;have hw0:gm<w.heap.size:=hgm;by_cases c1:i<m.b;·
   rw[if_pos c1];go_enter Tryz.func279,Tryz.ntmps279;go_upto_region 3 with(fail);refine jg 1 [(288,5,_)] ?_;intro WB HB d0 sWB fHB;simp only[Bx,Bo]at fHB;obtain⟨ho1,HF⟩:=mA;refine cQ (aw WB) [0,1,2,3,4,5,6] 2 ?_;iterate 7 refine pO ?_
   refine pE ?_;refine bl 7 ?_;simp only[PL];go_wp2_with fail;refine(HCm.out _).mono ?_;rintro e w1⟨rfl,hb⟩;have k1w:Below WB.heap.size WB w1:=aj hb cb cs;have hk1:=aw.mk k1w;have s1:=k1w.size;clear hb;go_wp2;refine ba ?_;refine bE [8] 0 ?_;refine pO ?_;refine pE ?_;refine cU ?_;obtain⟨d1,HB1,ho2⟩:=mB;clear fHB HB ho1 HCm hk1 k1w d0;have fB1:=HB1.out;have f2:=ho2.out;simp only[Bx,Bo]at fB1;simp only[Bo]at f2;go_wp2_with fail;have HL:=Lib.hid (show Bo (w1.alloc (.cells #[n.s,J n.h,J n.l,n.b,v,Y,(.pointer none),(.pointer none)] 344)) w1.heap.size 344 8 #[n.s,J n.h,J n.l,n.b,v,Y,(.pointer none),(.pointer none)]from(dY:Bx (w1.alloc (.cells #[n.s,J n.h,J n.l,n.b,v,Y,(.pointer none),(.pointer none)] 344)) w1.heap.size [(344,8,#[n.s,J n.h,J n.l,n.b,v,Y,(.pointer none),(.pointer none)])]).1);have d2:Below w.heap.size w (w1.alloc (.cells #[n.s,J n.h,J n.l,n.b,v,Y,(.pointer none),(.pointer none)] 344)):=d1.alloc aa _;refine(D1 w.heap.size m n mx v mh k0 k1 _ w1.heap.size _ d2.size (fun q h=>h.2) (h0.keep (R':=fun q=>R q∧q<w.heap.size) (Kp.below d2) fun _ h=>h) hn HL.out aa i hi).mono ?_;rintro e w3⟨p',rfl,ht,hb⟩;have hp1:=ht.one;have d3:=d2.trans hb;clear hb;go_wp2;go_ret;exact⟨p',rfl,ht.keep (Kp.below (Below.refl _ _)) (fun q h=>h.imp (fun h=>h.1) id),d3⟩
  rw[if_neg c1];by_cases c2:i=n.b;·
   subst c2;rw[if_pos rfl];go_enter Tryz.func279,Tryz.ntmps279;go_upto_region 3 with(fail);refine jg 1 [(288,5,_)] ?_;intro WB HB d0 sWB fHB;simp only[Bx,Bo]at fHB;obtain⟨ho1,HF⟩:=mA;refine cQ (aw WB) [0,1,2,3,4,5,6] 2 ?_;iterate 7 refine pO ?_
   refine pE ?_;refine bl 7 ?_;simp only[PL];go_wp2_with fail;refine(HCm.out _).mono ?_;rintro e w1⟨rfl,hb⟩;have k1w:Below WB.heap.size WB w1:=aj hb cb cs;have hk1:=aw.mk k1w;have s1:=k1w.size;clear hb;go_wp2;refine ba ?_;refine bE [8] 0 ?_;refine pO ?_;refine pE ?_;refine cU ?_;obtain⟨d1,HB1,ho2⟩:=mB;clear fHB HB ho1 HCm hk1 k1w d0;have fB1:=HB1.out;have f2:=ho2.out;simp only[Bx,Bo]at fB1;simp only[Bo]at f2;go_wp2;go_ret;have d2:Below w.heap.size w (w1.alloc (.cells #[n.s,J n.h,J n.l,n.b,v,Y,v0,v1] 344)):=d1.alloc aa _;exact⟨_,rfl,⟨hn,w1.heap.size,v0,v1,rfl,.inr aa,(dY:Bx (w1.alloc (.cells #[n.s,J n.h,J n.l,n.b,v,Y,v0,v1] 344)) w1.heap.size [(344,8,#[n.s,J n.h,J n.l,n.b,v,Y,v0,v1])]).1,o1,o2,t0.keep (Kp.below d2) (fun q h=>.inl h.1),t1.keep (Kp.below d2) (fun q h=>.inl h.1)⟩,d2⟩
  rw[if_neg c2];have c3:(i==n.b)=false:=beq_eq_false_iff_ne.2 c2;rcases nN n hn i hi with hr|hr;·
   go_enter Tryz.func279,Tryz.ntmps279;go_upto_region 3 with(fail);have HB:=Lib.hid (dY:Bx (w.alloc (.cells (#[n.s,J n.h,J n.l,n.b,v]) 288)) w.heap.size [(288,5,#[n.s,J n.h,J n.l,n.b,v])]);have d0:Below w.heap.size w (w.alloc (.cells (#[n.s,J n.h,J n.l,n.b,v]) 288)):=bY;have sWB:w.heap.size+1≤(w.alloc (.cells (#[n.s,J n.h,J n.l,n.b,v]) 288)).heap.size:=ay;generalize(w.alloc (.cells (#[n.s,J n.h,J n.l,n.b,v]) 288))=WB at*;have fHB:=HB.out;simp only[Bx,Bo]at fHB;obtain⟨ho1,HF⟩:=mA;refine cQ (aw WB) [0,1,2,3,4,5,6] 2 ?_;iterate 7 refine pO ?_
   refine pE ?_;refine bl 7 ?_;simp only[PL];go_wp2_with fail;refine(HCm.out _).mono ?_;rintro e w1⟨rfl,hb⟩;have k1w:Below WB.heap.size WB w1:=aj hb cb cs;have hk1:=aw.mk k1w;have s1:=k1w.size;clear hb;go_wp2;refine ba ?_;refine bE [8] 0 ?_;refine pO ?_;refine pE ?_;refine cU ?_;obtain⟨d1,HB1,ho2⟩:=mB;clear fHB HB ho1 HCm hk1 k1w d0;have fB1:=HB1.out;have f2:=ho2.out;simp only[Bx,Bo]at fB1;simp only[Bo]at f2;go_wp2_with fail;refine(jV n hn i hi _).mono ?_;rintro e w2⟨rfl,hb⟩;obtain⟨HY,k2,d2,HB2,ho3,s2⟩:=vx;rw[hr];clear hb k2 HB1 ho2 fB1 f2 d1;generalize w1.heap.size=y at*;have fB2:=HB2.out;have f3:=ho3.out;have f4:=HY.out;simp only[Bx,Bo]at fB2;simp only[Bo]at f3 f4;have q1:¬(gm=y):=aa;have q2:¬(y=gm):=aa;have q3:¬(w.heap.size=y):=aa;have q4:¬(y=w.heap.size):=aa;go_upto_region 11 with(fail);have HF:=Lib.hid (fun(W:World)(hS:(ax y w2) W)=>And.intro (Bx.upto hS HB2.out (.inr aF)) (ho3.out.upto hS aa));refine cQ (ax y w2) [0,1,2,3,4,5,6,7,9] 3 ?_;iterate 9 refine pO ?_
   refine pE ?_;refine bl 8 ?_;simp only[PL];go_wp2_with fail;refine(IH0.out _ (t0.keep (R':=fun q=>R q∧q<w.heap.size) (Kp.below (d2.drew)) fun _ h=>h)).mono ?_;rintro e w3⟨p',rfl,ht,hb⟩;obtain⟨pa,rfl⟩:=ht.ptr;have b3:Below w2.heap.size w2 w3:=((Below.refl w2.heap.size w2).drew).trans hb;have HY3:=Lib.hid (HY.out.below b3 aa);have HT3:=Lib.hid (show fJ (Rn (fun q=>R q∧q<w.heap.size) w2.heap.size) w3 (.pointer pa) _ from ht);have f3:=HY3.out;simp only[Bo]at f3;clear hb ht;go_wp2;refine ba ?_;refine bE [10] 1 ?_;refine pO ?_;refine pE ?_;refine bl 11 ?_;simp only[PL];go_wp2;refine ba ?_;refine cU ?_;go_wp2;go_ret;have d3:Below w.heap.size w (w3.setRow y (#[m.s,J m.h,J m.l,m.b,mx,mh,(.pointer pa),v1])):=ai (d2.trans (b3.mono d2.size)) aa _;refine⟨_,rfl,⟨hm,y,_,_,rfl,.inr aa,HY3.out.row (D:=#[m.s,J m.h,J m.l,m.b,mx,mh,(.pointer pa),v1]) rfl,rfl,o2,HT3.out.keep (Kp.setRow pG) (fun q h=>h.imp (fun h=>h.1) (fun h=>aa)),t1.keep (Kp.below d3) (fun q h=>.inl h.1)⟩,d3⟩
  ·go_enter Tryz.func279,Tryz.ntmps279;go_upto_region 3 with(fail);refine jg 1 [(288,5,_)] ?_;intro WB HB d0 sWB fHB;simp only[Bx,Bo]at fHB;obtain⟨ho1,HF⟩:=mA;refine cQ (aw WB) [0,1,2,3,4,5,6] 2 ?_;iterate 7 refine pO ?_
   refine pE ?_;refine bl 7 ?_;simp only[PL];go_wp2_with fail;refine(HCm.out _).mono ?_;rintro e w1⟨rfl,hb⟩;have k1w:Below WB.heap.size WB w1:=aj hb cb cs;have hk1:=aw.mk k1w;have s1:=k1w.size;clear hb;go_wp2;refine ba ?_;refine bE [8] 0 ?_;refine pO ?_;refine pE ?_;refine cU ?_;obtain⟨d1,HB1,ho2⟩:=mB;clear fHB HB ho1 HCm hk1 k1w d0;have fB1:=HB1.out;have f2:=ho2.out;simp only[Bx,Bo]at fB1;simp only[Bo]at f2;go_wp2_with fail;refine(jV n hn i hi _).mono ?_;rintro e w2⟨rfl,hb⟩;obtain⟨HY,k2,d2,HB2,ho3,s2⟩:=vx;rw[hr];clear hb k2 HB1 ho2 fB1 f2 d1;generalize w1.heap.size=y at*;have fB2:=HB2.out;have f3:=ho3.out;have f4:=HY.out;simp only[Bx,Bo]at fB2;simp only[Bo]at f3 f4;have q1:¬(gm=y):=aa;have q2:¬(y=gm):=aa;have q3:¬(w.heap.size=y):=aa;have q4:¬(y=w.heap.size):=aa;go_upto_region 11 with(fail);have HF:=Lib.hid (fun(W:World)(hS:(ax y w2) W)=>And.intro (Bx.upto hS HB2.out (.inr aF)) (ho3.out.upto hS aa));refine cQ (ax y w2) [0,1,2,3,4,5,6,7,9] 3 ?_;iterate 9 refine pO ?_
   refine pE ?_;refine bl 8 ?_;simp only[PL];go_wp2_with fail;refine(IH1.out _ (t1.keep (R':=fun q=>R q∧q<w.heap.size) (Kp.below (d2.drew)) fun _ h=>h)).mono ?_;rintro e w3⟨p',rfl,ht,hb⟩;obtain⟨pa,rfl⟩:=ht.ptr;have b3:Below w2.heap.size w2 w3:=((Below.refl w2.heap.size w2).drew).trans hb;have HY3:=Lib.hid (HY.out.below b3 aa);have HT3:=Lib.hid (show fJ (Rn (fun q=>R q∧q<w.heap.size) w2.heap.size) w3 (.pointer pa) _ from ht);have f3:=HY3.out;simp only[Bo]at f3;clear hb ht;go_wp2;refine ba ?_;refine bE [10] 1 ?_;refine pO ?_;refine pE ?_;refine bl 11 ?_;simp only[PL];go_wp2;refine ba ?_;refine cU ?_;go_wp2;go_ret;have d3:Below w.heap.size w (w3.setRow y (#[m.s,J m.h,J m.l,m.b,mx,mh,v0,(.pointer pa)])):=ai (d2.trans (b3.mono d2.size)) aa _;refine⟨_,rfl,⟨hm,y,_,_,rfl,.inr aa,HY3.out.row (D:=#[m.s,J m.h,J m.l,m.b,mx,mh,v0,(.pointer pa)]) rfl,o1,rfl,t0.keep (Kp.below d3) (fun q h=>.inl h.1),HT3.out.keep (Kp.setRow pG) (fun q h=>h.imp (fun h=>h.1) (fun h=>aa))⟩,d3⟩
end
section
attribute[local go_sem high]ah
attribute[local simp high]ah
theorem de{p:Prop}(h:PQ p:=by have HF:=Lib.hid (fun(W:World)(hS:(aw wr) W)=>And.intro (Bx.mono hS.out HBr.out aF) (ho'.out.below hS.out aa));exact pq (HF)):p:=h
theorem vO{p:Prop}(h:p:=by
 obtain⟨dr,hBr⟩:=HH.out;have HBr:=Lib.hid hBr;have dr:=Lib.hid dr;clear hBr HH HB2 fB2 d2 ht0 ht1;have fBr:=HBr.out;simp only[Bx,Bo]at fBr;cases t with
  |nil=>
   obtain rfl:=(show _=Value.pointer none from ht);have hE:=he.trans hS.out;have e1:S1=0:=(congrArg Prod.fst hE).symm;have e2:S2=false:=(congrArg Prod.snd hE).symm;clear hE he hs;replace e1:=Lib.hid e1;replace e2:=Lib.hid e2;go_upto_region 4 with(fail);have HF:=i8 HBr;refine cQ (aw wr) [0,1,2] 10 ?_;iterate 3 refine pO ?_
   refine pE ?_;refine gN 3 ?_;refine gN 4 ?_;refine gN 5 ?_;refine gN 6 ?_;refine gN 7 ?_;refine gN 8 ?_;refine gN 9 ?_;refine gN 10 ?_;refine gN 11 ?_;refine bE [12] 0 ?_;refine pO ?_;refine pE ?_;refine cU ?_;go_upto_region 6 with(fail);have HF:=i8 HBr;refine cQ (aw wr) [0,1,2] 15 ?_;iterate 3 refine pO ?_
   refine pE ?_;refine gN 3 ?_;refine gN 4 ?_;refine gN 5 ?_;refine gN 6 ?_;refine gN 7 ?_;refine bE [8,9] 8 ?_;iterate 2 refine pO ?_
   refine pE ?_;refine gN 10 ?_;refine gN 11 ?_;refine gN 12 ?_;refine gN 13 ?_;refine gN 14 ?_;refine gN 15 ?_;refine gN 16 ?_;refine bE [17] 0 ?_;refine pO ?_;refine pE ?_;refine cU ?_;go_wp2;exact bodyPost_ret (results_tmp2 rfl _ _ _) rfl ⟨(Eq.trans gQ (show Ending.returned (.tuple #[Z,F])= .returned (.tuple #[S1,S2])from rm)),dr.out.trans ((cb:Below wr.heap.size wr _).mono aa)⟩
  |node m x has k0 k1=>
   obtain⟨hm,gm,v0,v1,rfl,hgm,ho,o1,o2,t0',t1'⟩:=ht;replace hgm:=hRl.out _ hgm;have ho':=Lib.hid (show Bo wr gm 344 8 #[m.s,J m.h,J m.l,m.b,x,has,v0,v1]from Bo.below ho dr.out hgm);have fo:=ho'.out;simp only[Bo]at fo;have hmb:Rg m.b:=by have:=hm.2.2;unfold Rg;omega
   have hE:=he.trans hS.out;clear he;by_cases c:m.b<n.b;·
    have hE:=Lib.hid hE;rcases nN n hn m.b hmb with hr'|hr';·
     go_upto_region 4 with(fail);have HF:=de;refine cQ (aw wr) [0,1,2] 10 ?_;iterate 3 refine pO ?_
     refine pE ?_;refine gY 3 ?_;refine gY 4 ?_;refine gY 5 ?_;refine gY 6 ?_;refine gY 7 ?_;refine gY 8 ?_;refine gY 9 ?_;refine gY 10 ?_;refine gY 11 ?_;refine bE [12] 0 ?_;refine pO ?_;refine pE ?_;refine cU ?_;go_upto_region 5 with(fail);have HF:=de;refine cQ (aw wr) [0,1,2,3,4,5,6,7,9,10] 4 ?_;iterate 10 refine pO ?_
     refine pE ?_;refine bl 8 ?_;simp only[PL];go_wp2_with fail;refine(HBi.out m.b hmb _).mono ?_;rintro e w5⟨rfl,hb⟩;have k5:Below wr.heap.size wr w5:=aj hb cb cs;have hk5:=aw.mk k5;have s5:=k5.size;rw[hr'];clear hb;go_wp2;refine ba ?_;refine bE [11,12,13] 0 ?_;iterate 3 refine pO ?_
     refine pE ?_;refine cU ?_;have d5:Below w.heap.size w w5:=dr.out.trans (hk5.out.mono dr.out.size);have HB5:=Lib.hid (Bx.mono hk5.out HBr.out (by simp;have:=dr.out.size;omega));have hsz:k0.sz<gk:=uA;have hE3:si n (j4 n k0)=(S1,S2):=by rw[←hE.out];simp only[j4];rw[if_pos c,if_pos hr']
     go_wp2_with fail;go_roundg(k0.sz);case measure=>exact hsz
     case rel=>exact⟨k0,t0',hE3.trans hS.out.symm,Nat.le_refl _,Lib.hid ⟨d5,HB5.out⟩⟩
    ·go_upto_region 4 with(fail);have HF:=de;refine cQ (aw wr) [0,1,2] 10 ?_;iterate 3 refine pO ?_
     refine pE ?_;refine gY 3 ?_;refine gY 4 ?_;refine gY 5 ?_;refine gY 6 ?_;refine gY 7 ?_;refine gY 8 ?_;refine gY 9 ?_;refine gY 10 ?_;refine gY 11 ?_;refine bE [12] 0 ?_;refine pO ?_;refine pE ?_;refine cU ?_;go_upto_region 5 with(fail);have HF:=de;refine cQ (aw wr) [0,1,2,3,4,5,6,7,9,10] 4 ?_;iterate 10 refine pO ?_
     refine pE ?_;refine bl 8 ?_;simp only[PL];go_wp2_with fail;refine(HBi.out m.b hmb _).mono ?_;rintro e w5⟨rfl,hb⟩;have k5:Below wr.heap.size wr w5:=aj hb cb cs;have hk5:=aw.mk k5;have s5:=k5.size;rw[hr'];clear hb;go_wp2;refine ba ?_;refine bE [11,12,13] 0 ?_;iterate 3 refine pO ?_
     refine pE ?_;refine cU ?_;have d5:Below w.heap.size w w5:=dr.out.trans (hk5.out.mono dr.out.size);have HB5:=Lib.hid (Bx.mono hk5.out HBr.out (by simp;have:=dr.out.size;omega));have hsz:k1.sz<gk:=uA;have hE3:si n (j4 n k1)=(S1,S2):=by rw[←hE.out];simp only[j4];rw[if_pos c,if_neg (by rw[hr'];decide)]
     go_wp2_with fail;go_roundg(k1.sz);case measure=>exact hsz
     case rel=>exact⟨k1,t1',hE3.trans hS.out.symm,Nat.le_refl _,Lib.hid ⟨d5,HB5.out⟩⟩
   ·have hE2:si n (.node m x has k0 k1)=(S1,S2):=by rw[←hE];simp only[j4];rw[if_neg c]
    clear hE;cases has with
     |false=>
      have e1:S1=0:=(congrArg Prod.fst hE2).symm;have e2:S2=false:=(congrArg Prod.snd hE2).symm;clear hE2 hs;replace e1:=Lib.hid e1;replace e2:=Lib.hid e2;go_upto_region 4 with(fail);have HF:=de;refine cQ (aw wr) [0,1,2] 10 ?_;iterate 3 refine pO ?_
      refine pE ?_;refine gY 3 ?_;refine gY 4 ?_;refine gY 5 ?_;refine gY 6 ?_;refine gY 7 ?_;refine gY 8 ?_;refine gY 9 ?_;refine gY 10 ?_;refine gY 11 ?_;refine bE [12] 0 ?_;refine pO ?_;refine pE ?_;refine cU ?_;go_upto_region 6 with(fail);have HF:=de;refine cQ (aw wr) [0,1,2] 15 ?_;iterate 3 refine pO ?_
      refine pE ?_;refine gY 3 ?_;refine gY 4 ?_;refine gY 5 ?_;refine gY 6 ?_;refine gY 7 ?_;refine bE [8,9] 8 ?_;iterate 2 refine pO ?_
      refine pE ?_;refine gN 10 ?_;refine gN 11 ?_;refine gN 12 ?_;refine gN 13 ?_;refine gN 14 ?_;refine gN 15 ?_;refine gN 16 ?_;refine bE [17] 0 ?_;refine pO ?_;refine pE ?_;refine cU ?_;go_wp2;exact bodyPost_ret (results_tmp2 rfl _ _ _) rfl ⟨(Eq.trans gQ (show Ending.returned (.tuple #[Z,F])= .returned (.tuple #[S1,S2])from rm)),dr.out.trans ((cb:Below wr.heap.size wr _).mono aa)⟩
     |true=>
      by_cases hmn:m=n;·
       subst hmn;have hE3:(x,true)=(S1,S2):=by rw[←hE2];simp only[si,if_true]
       have e1:S1=x:=(congrArg Prod.fst hE3).symm;have e2:S2=true:=(congrArg Prod.snd hE3).symm;clear hE2 hE3 hs;replace e1:=Lib.hid e1;replace e2:=Lib.hid e2;go_upto_region 4 with(fail);have HF:=de;refine cQ (aw wr) [0,1,2] 10 ?_;iterate 3 refine pO ?_
       refine pE ?_;refine gY 3 ?_;refine gY 4 ?_;refine gY 5 ?_;refine gY 6 ?_;refine gY 7 ?_;refine gY 8 ?_;refine gY 9 ?_;refine gY 10 ?_;refine gY 11 ?_;refine bE [12] 0 ?_;refine pO ?_;refine pE ?_;refine cU ?_;go_upto_region 6 with(fail);have HF:=de;refine cQ (aw wr) [0,1,2] 15 ?_;iterate 3 refine pO ?_
       refine pE ?_;refine gY 3 ?_;refine gY 4 ?_;refine gY 5 ?_;refine gY 6 ?_;refine gY 7 ?_;refine bE [8,9] 8 ?_;iterate 2 refine pO ?_
       refine pE ?_;refine gY 10 ?_;refine gY 11 ?_;refine gY 12 ?_;refine gY 13 ?_;refine gY 14 ?_;refine gY 15 ?_;refine gY 16 ?_;refine bE [17] 0 ?_;refine pO ?_;refine pE ?_;refine cU ?_;go_wp2;exact bodyPost_ret (results_tmp2 rfl _ _ _) rfl ⟨(Eq.trans gQ (show Ending.returned (.tuple #[x,Y])= .returned (.tuple #[S1,S2])from rm)),dr.out.trans ((cb:Below wr.heap.size wr _).mono aa)⟩
      ·have hE3:((0:Int),false)=(S1,S2):=by rw[←hE2];simp only[si];rw[if_neg hmn]
       have e1:S1=0:=(congrArg Prod.fst hE3).symm;have e2:S2=false:=(congrArg Prod.snd hE3).symm;clear hE2 hE3 hs;replace e1:=Lib.hid e1;replace e2:=Lib.hid e2;rcases P4 hmn with hd|hd|hd|hd;·
        have z1:¬(m.s=n.s):=hd;have z2:¬(n.s=m.s):=fun e=>hd e.symm;have z3:(m.s==n.s)=false:=beq_eq_false_iff_ne.2 hd;have z4:(n.s==m.s)=false:=beq_eq_false_iff_ne.2 z2;clear hd;go_upto_region 4 with(fail);have HF:=de;refine cQ (aw wr) [0,1,2] 10 ?_;iterate 3 refine pO ?_
        refine pE ?_;refine gY 3 ?_;refine gY 4 ?_;refine gY 5 ?_;refine gY 6 ?_;refine gY 7 ?_;refine gY 8 ?_;refine gY 9 ?_;refine gY 10 ?_;refine gY 11 ?_;refine bE [12] 0 ?_;refine pO ?_;refine pE ?_;refine cU ?_;go_upto_region 6 with(fail);have HF:=de;refine cQ (aw wr) [0,1,2] 15 ?_;iterate 3 refine pO ?_
        refine pE ?_;refine gY 3 ?_;refine gY 4 ?_;refine gY 5 ?_;refine gY 6 ?_;refine gY 7 ?_;refine bE [8,9] 8 ?_;iterate 2 refine pO ?_
        refine pE ?_;refine gY 10 ?_;refine gY 11 ?_;refine gY 12 ?_;refine gY 13 ?_;refine gY 14 ?_;refine gY 15 ?_;refine gY 16 ?_;refine bE [17] 0 ?_;refine pO ?_;refine pE ?_;refine cU ?_;go_wp2;exact bodyPost_ret (results_tmp2 rfl _ _ _) rfl ⟨(Eq.trans gQ (show Ending.returned (.tuple #[Z,F])= .returned (.tuple #[S1,S2])from rm)),dr.out.trans ((cb:Below wr.heap.size wr _).mono aa)⟩
       ·have z1:¬(m.h=n.h):=hd;have z2:¬(n.h=m.h):=fun e=>hd e.symm;have z3:(m.h==n.h)=false:=beq_eq_false_iff_ne.2 hd;have z4:(n.h==m.h)=false:=beq_eq_false_iff_ne.2 z2;clear hd;go_upto_region 4 with(fail);have HF:=de;refine cQ (aw wr) [0,1,2] 10 ?_;iterate 3 refine pO ?_
        refine pE ?_;refine gY 3 ?_;refine gY 4 ?_;refine gY 5 ?_;refine gY 6 ?_;refine gY 7 ?_;refine gY 8 ?_;refine gY 9 ?_;refine gY 10 ?_;refine gY 11 ?_;refine bE [12] 0 ?_;refine pO ?_;refine pE ?_;refine cU ?_;go_upto_region 6 with(fail);have HF:=de;refine cQ (aw wr) [0,1,2] 15 ?_;iterate 3 refine pO ?_
        refine pE ?_;refine gY 3 ?_;refine gY 4 ?_;refine gY 5 ?_;refine gY 6 ?_;refine gY 7 ?_;refine bE [8,9] 8 ?_;iterate 2 refine pO ?_
        refine pE ?_;refine gY 10 ?_;refine gY 11 ?_;refine gY 12 ?_;refine gY 13 ?_;refine gY 14 ?_;refine gY 15 ?_;refine gY 16 ?_;refine bE [17] 0 ?_;refine pO ?_;refine pE ?_;refine cU ?_;go_wp2;exact bodyPost_ret (results_tmp2 rfl _ _ _) rfl ⟨(Eq.trans gQ (show Ending.returned (.tuple #[Z,F])= .returned (.tuple #[S1,S2])from rm)),dr.out.trans ((cb:Below wr.heap.size wr _).mono aa)⟩
       ·have z1:¬(m.l=n.l):=hd;have z2:¬(n.l=m.l):=fun e=>hd e.symm;have z3:(m.l==n.l)=false:=beq_eq_false_iff_ne.2 hd;have z4:(n.l==m.l)=false:=beq_eq_false_iff_ne.2 z2;clear hd;go_upto_region 4 with(fail);have HF:=de;refine cQ (aw wr) [0,1,2] 10 ?_;iterate 3 refine pO ?_
        refine pE ?_;refine gY 3 ?_;refine gY 4 ?_;refine gY 5 ?_;refine gY 6 ?_;refine gY 7 ?_;refine gY 8 ?_;refine gY 9 ?_;refine gY 10 ?_;refine gY 11 ?_;refine bE [12] 0 ?_;refine pO ?_;refine pE ?_;refine cU ?_;go_upto_region 6 with(fail);have HF:=de;refine cQ (aw wr) [0,1,2] 15 ?_;iterate 3 refine pO ?_
        refine pE ?_;refine gY 3 ?_;refine gY 4 ?_;refine gY 5 ?_;refine gY 6 ?_;refine gY 7 ?_;refine bE [8,9] 8 ?_;iterate 2 refine pO ?_
        refine pE ?_;refine gY 10 ?_;refine gY 11 ?_;refine gY 12 ?_;refine gY 13 ?_;refine gY 14 ?_;refine gY 15 ?_;refine gY 16 ?_;refine bE [17] 0 ?_;refine pO ?_;refine pE ?_;refine cU ?_;go_wp2;exact bodyPost_ret (results_tmp2 rfl _ _ _) rfl ⟨(Eq.trans gQ (show Ending.returned (.tuple #[Z,F])= .returned (.tuple #[S1,S2])from rm)),dr.out.trans ((cb:Below wr.heap.size wr _).mono aa)⟩
       ·have z1:¬(m.b=n.b):=hd;have z2:¬(n.b=m.b):=fun e=>hd e.symm;have z3:(m.b==n.b)=false:=beq_eq_false_iff_ne.2 hd;have z4:(n.b==m.b)=false:=beq_eq_false_iff_ne.2 z2;clear hd;go_upto_region 4 with(fail);have HF:=de;refine cQ (aw wr) [0,1,2] 10 ?_;iterate 3 refine pO ?_
        refine pE ?_;refine gY 3 ?_;refine gY 4 ?_;refine gY 5 ?_;refine gY 6 ?_;refine gY 7 ?_;refine gY 8 ?_;refine gY 9 ?_;refine gY 10 ?_;refine gY 11 ?_;refine bE [12] 0 ?_;refine pO ?_;refine pE ?_;refine cU ?_;go_upto_region 6 with(fail);have HF:=de;refine cQ (aw wr) [0,1,2] 15 ?_;iterate 3 refine pO ?_
        refine pE ?_;refine gY 3 ?_;refine gY 4 ?_;refine gY 5 ?_;refine gY 6 ?_;refine gY 7 ?_;refine bE [8,9] 8 ?_;iterate 2 refine pO ?_
        refine pE ?_;refine gY 10 ?_;refine gY 11 ?_;refine gY 12 ?_;refine gY 13 ?_;refine gY 14 ?_;refine gY 15 ?_;refine gY 16 ?_;refine bE [17] 0 ?_;refine pO ?_;refine pE ?_;refine cU ?_;go_wp2;exact bodyPost_ret (results_tmp2 rfl _ _ _) rfl ⟨(Eq.trans gQ (show Ending.returned (.tuple #[Z,F])= .returned (.tuple #[S1,S2])from rm)),dr.out.trans ((cb:Below wr.heap.size wr _).mono aa)⟩):p:=h
def qo(R:Nat→Prop)(W:World)(p:Value)(t0 t1:Tn):Prop:=∃g v0 v1 c,p= .pointer (some ⟨g,0,none⟩)∧R g∧Bo W g 341 3 #[v0,v1,I c]∧v0.oneCell'=true∧v1.oneCell'=true∧fJ R W v0 t0∧fJ R W v1 t1
theorem qo.keep{R R':Nat→Prop}{W W':World}{p:Value}{t0 t1:Tn}(h:qo R W p t0 t1)(k:Kp R W W')(m:∀q,R q→R' q):qo R' W' p t0 t1:=by obtain⟨g,v0,v1,c,h1,h2,h3,h4,h5,h6,h7⟩:=h;exact⟨g,v0,v1,c,h1,m g h2,Bo.of ((k.2 g h2 h3.2.2.2.1).trans h3.heap.1) h3.heap.2,h4,h5,h6.keep k m,h7.keep k m⟩
theorem qo.cut{R:Nat→Prop}{W:World}{p:Value}{t0 t1:Tn}(h:qo R W p t0 t1):qo (fun q=>R q∧q<W.heap.size) W p t0 t1:=by obtain⟨g,v0,v1,c,h1,h2,h3,h4,h5,h6,h7⟩:=h;exact⟨g,v0,v1,c,h1,⟨h2,h3.2.2.2.1⟩,h3,h4,h5,h6.cut,h7.cut⟩
theorem ol(p:Prop)[Decidable p](a:Bool)(W:World):(if p then Result.ok (Next.value a) W else Result.ok (Next.value F) W)=Result.ok (Next.value (.bool (decide p&&a))) W:=by by_cases h:p<;>simp[h]
theorem sJ(p:Prop)[Decidable p](a:Bool)(W:World):(if p then Result.ok (Next.value a) W else Result.ok (Next.value Y) W)=Result.ok (Next.value (.bool (!decide p||a))) W:=by by_cases h:p<;>simp[h]
theorem P4{m n:Nt}(h:m≠n):m.s≠n.s∨m.h≠n.h∨m.l≠n.l∨m.b≠n.b:=by
 obtain⟨a,b,c,d⟩:=m;obtain⟨a',b',c',d'⟩:=n;by_cases h1:a=a';·
  by_cases h2:b=b';·
   by_cases h3:c=c';·
    by_cases h4:d=d';·subst h1 h2 h3 h4;exact absurd rfl h
    ·exact .inr (.inr (.inr h4))
   ·exact .inr (.inr (.inl h3))
  ·exact .inr (.inl h2)
 ·exact .inl h1
noncomputable def j4(n:Nt):Tn→Tn
 | .nil=>.nil
 | .node m x has k0 k1=>if m.b<n.b then(if jE n m.b=0 then j4 n k0 else j4 n k1)else .node m x has k0 k1
def Tn.sz:Tn→Nat
 | .nil=>0
 | .node _ _ _ k0 k1=>1+k0.sz+k1.sz
def si(n:Nt):Tn→Int×Bool
 | .node m x true _ _=>if m=n then(x,true)else(0,false)
 |_=>(0,false)
noncomputable def wE(n:Nt)(t0 t1:Tn):Int×Bool:=si n (j4 n (if n.s=true then t1 else t0))
attribute[local go_sem]ol sJ
def Q9(n:Nt):Bool:=Fg n.s n.h n.l n.b
theorem get_at(n:Nt)(hn:jB n)(hr:Q9 n=true){R:Nat→Prop}(p:Value)(t0 t1:Tn)(w:World)(h:qo R w p t0 t1):Calls Tryz.prog 239 #[p,.agg #[n.s,J n.h,J n.l,n.b]] w fun e w'=>e= .returned (.tuple #[I (wE n t0 t1).1,.bool (wE n t0 t1).2])∧Below w.heap.size w w':=by
 have HN:=Lib.hid (fun(W:World)=>wM n.s n.h n.l n.b hn.2.1 W);rw[show Fg n.s n.h n.l n.b=true from hr]at HN;have HFa:=Lib.hid (fun(W:World)=>AW n.s n.h n.l W);have HBi:=Lib.hid (fun(i:Int)(hi:Rg i)(W:World)=>jV n hn i hi W);obtain⟨g,v0,v1,c,rfl,⟨-,hg⟩,ho,o1,o2,ht0,ht1⟩:=h.cut;unfold wE;obtain⟨R1,hR1⟩:∃R1:Nat→Prop,R1=fun q=>R q∧q<w.heap.size:=⟨_,rfl⟩;rw[←hR1]at ht0 ht1;have hRl:=Lib.hid (show∀q,R1 q→q<w.heap.size from fun q h=>B3);clear hR1;generalize hS:si n (j4 n (if n.s=true then t1 else t0))=S;obtain⟨S1,S2⟩:=S;by_cases hs:n.s=true;·
  rw[if_pos hs]at HFa hS;clear hs;have hS:=Lib.hid hS;go_enter Tryz.func239,Tryz.ntmps239;go_wp2_with fail;refine en 1 [(39,4,_)] ?_;intro WB HB d0 sWB fHB;simp only[Bx,Bo]at fHB;have ho1:=Lib.hid (ho.below d0 hg);refine(HN.out _).mono ?_;rintro e w1⟨rfl,hb⟩;have HB1:=cD hb HB;have d1:=dE d0 hb;have ho2:=Lib.hid (ho.below d1 hg);have s1:=hb.size;have fB1:=HB1.out;have f2:=ho2.out;simp only[Bx,Bo]at fB1;simp only[Bo]at f2;clear hb fHB HB ho1 d0;go_upto_region 3 with(fail);have HF:=Lib.hid (fun(W:World)(hS:(aw w1) W)=>And.intro (Bx.mono hS.out HB1.out aF) (ho2.out.below hS.out aa));refine cQ (aw w1) [0,1,2,4,5] 4 ?_;iterate 5 refine pO ?_
  refine pE ?_;refine bl 3 ?_;simp only[PL];go_wp2_with fail;refine(HFa.out _).mono ?_;rintro e w2⟨rfl,hb⟩;have k2:Below w1.heap.size w1 w2:=aj hb cb cs;have hk2:=aw.mk k2;have s2:=k2.size;clear hb;go_wp2;refine ba ?_;refine bE [6,7,8] 0 ?_;iterate 3 refine pO ?_
  refine pE ?_;refine cU ?_;have d2:=d1.trans (hk2.out.mono aa);have HB2:=Lib.hid (Bx.mono hk2.out HB1.out aF);have fB2:=HB2.out;simp only[Bx,Bo]at fB2;clear hk2 k2 fB1 f2 HB1 ho2 d1;go_wp2_with fail;go_loopg[6]t1.sz(fun g s6 wr=>∃(t:Tn),fJ R1 w s6 t∧si n (j4 n t)=si n (j4 n t1)∧t.sz≤g∧Hid (Below w.heap.size w wr∧Bx wr w.heap.size [(39,4,#[n.s,J n.h,J n.l,n.b])]));case atStart=>exact⟨t1,ht1,rfl,Nat.le_refl _,Lib.hid ⟨d2,HB2.out⟩⟩
  case round=>obtain⟨t,ht,he,hs,HH⟩:=hrel;exact vO
 ·rw[if_neg hs]at HFa hS;clear hs;have hS:=Lib.hid hS;go_enter Tryz.func239,Tryz.ntmps239;go_wp2_with fail;refine en 1 [(39,4,_)] ?_;intro WB HB d0 sWB fHB;simp only[Bx,Bo]at fHB;have ho1:=Lib.hid (ho.below d0 hg);refine(HN.out _).mono ?_;rintro e w1⟨rfl,hb⟩;have HB1:=cD hb HB;have d1:=dE d0 hb;have ho2:=Lib.hid (ho.below d1 hg);have s1:=hb.size;have fB1:=HB1.out;have f2:=ho2.out;simp only[Bx,Bo]at fB1;simp only[Bo]at f2;clear hb fHB HB ho1 d0;go_upto_region 3 with(fail);have HF:=Lib.hid (fun(W:World)(hS:(aw w1) W)=>And.intro (Bx.mono hS.out HB1.out aF) (ho2.out.below hS.out aa));refine cQ (aw w1) [0,1,2,4,5] 4 ?_;iterate 5 refine pO ?_
  refine pE ?_;refine bl 3 ?_;simp only[PL];go_wp2_with fail;refine(HFa.out _).mono ?_;rintro e w2⟨rfl,hb⟩;have k2:Below w1.heap.size w1 w2:=aj hb cb cs;have hk2:=aw.mk k2;have s2:=k2.size;clear hb;go_wp2;refine ba ?_;refine bE [6,7,8] 0 ?_;iterate 3 refine pO ?_
  refine pE ?_;refine cU ?_;have d2:=d1.trans (hk2.out.mono aa);have HB2:=Lib.hid (Bx.mono hk2.out HB1.out aF);have fB2:=HB2.out;simp only[Bx,Bo]at fB2;clear hk2 k2 fB1 f2 HB1 ho2 d1;go_wp2_with fail;go_loopg[6]t0.sz(fun g s6 wr=>∃(t:Tn),fJ R1 w s6 t∧si n (j4 n t)=si n (j4 n t0)∧t.sz≤g∧Hid (Below w.heap.size w wr∧Bx wr w.heap.size [(39,4,#[n.s,J n.h,J n.l,n.b])]));case atStart=>exact⟨t0,ht0,rfl,Nat.le_refl _,Lib.hid ⟨d2,HB2.out⟩⟩
  case round=>obtain⟨t,ht,he,hs,HH⟩:=hrel;exact vO
end
section
open Go.RowKit Go.Shelf
def Oj:Ren where
 f:=fun x=>match x with|21=>130|27=>183|28=>184|35=>237|39=>277|_=>x
 t:=fun x=>match x with|22=>23|_=>x
 g:=fun x=>x
theorem oq:Lays2.n21 Tryz.prog Oj where
 mixed:=af
 f21:=af
 f27:=af
 f28:=af
 f35:=af
 f39:=af
 t0:=af
 a0:=fun w=>af
 z0:=fun w=>af
 v0:=fun w=>af
 t3:=af
 a3:=fun w=>af
 z3:=fun w=>af
 v3:=fun w=>af
 t4:=af
 a4:=fun w=>af
 z4:=fun w=>af
 v4:=fun w=>af
 t22:=af
 a22:=fun w=>af
 z22:=fun w=>af
 v22:=fun w=>af
 i3:=af
def Q8:Ren where
 f:=fun x=>match x with|25=>129|31=>181|32=>182|37=>176|_=>x
 t:=fun x=>match x with|22=>23|40=>164|_=>x
 g:=fun x=>x
theorem C4:Lays2.n25 Tryz.prog Q8 where
 mixed:=af
 f25:=af
 f31:=af
 f32:=af
 f37:=af
 t0:=af
 a0:=fun w=>af
 z0:=fun w=>af
 v0:=fun w=>af
 t3:=af
 a3:=fun w=>af
 z3:=fun w=>af
 v3:=fun w=>af
 t4:=af
 a4:=fun w=>af
 z4:=fun w=>af
 v4:=fun w=>af
 t22:=af
 a22:=fun w=>af
 z22:=fun w=>af
 v22:=fun w=>af
 t40:=af
 a40:=fun w=>af
 z40:=fun w=>af
 v40:=fun w=>af
def P8:Ren where
 f:=fun x=>match x with|6=>131|10=>86|_=>x
 t:=fun x=>match x with|22=>23|23=>3|25=>192|_=>x
 g:=fun x=>x
theorem Kx:SlLaysH.n10 Tryz.prog P8 where
 mixed:=af
 f6:=⟨Tryz.f131.name,af,af⟩
 f10:=⟨Tryz.f86.name,af,af⟩
 t0:=af
 a0:=fun w=>af
 z0:=fun w=>af
 v0:=fun w=>af
 t3:=af
 a3:=fun w=>af
 z3:=fun w=>af
 v3:=fun w=>af
 t4:=af
 a4:=fun w=>af
 z4:=fun w=>af
 v4:=fun w=>af
 t22:=af
 a22:=fun w=>af
 z22:=fun w=>af
 v22:=fun w=>af
 a23:=fun w=>af
 z23:=fun w=>af
 t25:=af
 a25:=fun w=>af
 z25:=fun w=>af
 v25:=fun w=>af
theorem Ky:SlLaysH.n6 Tryz.prog P8 where
 mixed:=af
 f6:=⟨Tryz.f131.name,af,af⟩
 t0:=af
 a0:=fun w=>af
 z0:=fun w=>af
 v0:=fun w=>af
 t3:=af
 a3:=fun w=>af
 z3:=fun w=>af
 v3:=fun w=>af
 t4:=af
 a4:=fun w=>af
 z4:=fun w=>af
 v4:=fun w=>af
 t22:=af
 a22:=fun w=>af
 z22:=fun w=>af
 v22:=fun w=>af
 a23:=fun w=>af
 z23:=fun w=>af
 t25:=af
 a25:=fun w=>af
 z25:=fun w=>af
 v25:=fun w=>af
end
end Go.Proofs.YtnncjbkepakgpaaGreat
