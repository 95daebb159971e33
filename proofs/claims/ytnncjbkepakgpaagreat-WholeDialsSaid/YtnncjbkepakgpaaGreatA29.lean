/- STATES THAT MAY BE, by the document. A CONF IS RIGHT. -/
import Derived.Test.YtnncjbkepakgpaaGreatA28
namespace Go.Proofs.YtnncjbkepakgpaaGreat
open Go.RowKit Qv
set_option linter.unusedVariables false
set_option linter.unusedSimpArgs false
set_option maxRecDepth 100000
set_option maxHeartbeats 2000000
section
attribute[local go_sem high]ah
attribute[local simp high]ah
theorem sS{p:Prop}(h:PQ p:=by have HF:=Lib.hid (fun(W:World)(hS:(aw w6) W)=>And.intro (Bx.mono hS.out HB6.out aF) (And.intro (HEk.out W (d6.trans (hS.out.mono d6.size))) (HEp.out W (d6.trans (hS.out.mono d6.size)))));exact pq (HF)):p:=h
theorem zQ{p:Prop}(h:p:=by
 go_upto_region 9 with(fail);have HF:=sS;refine cQ (aw w6) [0,1,2,3,4,5,6,7,8,9] 9 ?_;iterate 10 refine pO ?_
 refine pE ?_;refine gY 10 ?_;refine gY 11 ?_;refine gY 12 ?_;refine gY 13 ?_;refine gY 14 ?_;refine gY 15 ?_;refine gY 16 ?_;refine bE [17,18] 0 ?_;iterate 2 refine pO ?_
 refine pE ?_;refine cU ?_;go_wp2;go_ret;exact⟨.inr rfl,d6.trans ((cb:Below w6.heap.size w6 _).mono d6.size)⟩):p:=h
theorem tA{p:Prop}(h:p:=by
 refine bE [21,22] 6 ?_;iterate 2 refine pO ?_
 refine pE ?_;refine gN 23 ?_;refine gN 24 ?_;refine gN 25 ?_;refine gN 26 ?_;refine gN 27 ?_;refine bE [28] 0 ?_;refine pO ?_;refine pE ?_;refine cU ?_;go_wp2;go_ret;exact⟨.inr rfl,d4.trans ((cb:Below w4.heap.size w4 _).mono aa)⟩):p:=h
theorem sG:(Tryz.prog.info? 57).map (·.size)=some 3:=af
theorem Fy(w:World):(isAgg 57).run Tryz.prog w= .ok true w:=by unfold isAgg;rw[Sem.run_bind,run_underlying Tryz.underlying57 w];rfl
theorem tW:lj 57:=fun _ _ _ _ _ _ _=>rfl
theorem xf:lh 57 3:=l6 sG Tryz.underlying57 rfl
theorem r7:ll 57:=fun _ _ _ _ _ _ _ _=>rfl
theorem un:li 57 3:=mG sG
attribute[go_sem↓]tW r7
attribute[go_sem]xf un
def Qa(P:List Pe)(y:En):Prop:=(y.s=3∧∃p∈P,p.e=y.e∧p.i=false)∨(y.s≠3∧((∀p∈P,p.e≠y.e)∨∃p∈P,p.e=y.e∧p.i=true))
structure OY(c:Cv)(N:List (Nt×Int))(L:List En)(P:List Pe):Prop where
 cv:OV c
 n:(∀y∈N,Qi y)∧N.Pairwise fun a b=>Ma a.1 b.1<0
 l:(∀y∈L,lf y)∧L.Pairwise fun a b=>Gc a.e b.e<0
 p:(∀y∈P,OI y)∧P.Pairwise fun a b=>Gc a.e b.e<0
 n1:(N.length:Int)≤c.mb
 l1:(L.length:Int)≤c.mbk
 p1:(gF true P:Int)≤c.mi
 p2:((gF false P+je 2 L:Nat):Int)≤c.mo
 q1:∀y∈L,Qa P y
 q2:∀p∈P,p.i=false→∃y∈L,y.e=p.e
theorem wu(b:Bool)(P:List Pe):gF b P≤P.length:=List.length_filter_le _ _
theorem wt(b:Int)(L:List En):je b L≤L.length:=List.length_filter_le _ _
theorem Dk(L:List En)(P:List Pe)(hl:L.length≤1000)(hp:P.length≤1000)(vb vk vp:Value)(ab:Option Addr)(nb cb':Nat)(eb:vb= .slice ab nb cb')(w:World)(hk:Sl w vk 7 (L.map bh))(hv:Sl w vp 10 (P.map eT)):Calls Tryz.prog 15 #[.agg #[vb,vk,vp]] w fun e w'=>e= .returned (I ((gF false P+je 2 L:Nat):Int))∧Below w.heap.size w w':=by
 have HP:=Lib.hid (fun W(k:Below w.heap.size w W)=>Is false P aa vp W (hv.below k));have HK:=Lib.hid (fun W(k:Below w.heap.size w W)=>Ol 2 L aa vk W (hk.below k));have hw:IntKind.i64.wrap ((gF false P:Int)+(je 2 L:Int))=((gF false P+je 2 L:Nat):Int):=by have h1:=wu false P;have h2:=wt 2 L;rw[IntKind.wrap_i64];omega
 obtain⟨ak,ck,rfl,-⟩:=id hk;obtain⟨ap,cp,rfl,-⟩:=id hv;subst eb;clear hk hv hl hp;rw[List.length_map,List.length_map]at*;generalize L.length=nk at*;generalize P.length=np at*;generalize gF false P=x at*;generalize je 2 L=y at*;go_enter Tryz.func15,Tryz.ntmps15;go_upto_region 1 with(fail);refine jg 1 [(57,3,_)] ?_;intro WB HB d0 sWB fHB;simp only[Bx,Bo]at fHB;have HF:=i8 HB;refine cQ (aw WB) [0,1,3,4] 4 ?_;iterate 4 refine pO ?_
 refine pE ?_;refine bl 2 ?_;simp only[PL];go_wp2_with fail;refine(HP.out _ (d0.trans ((cb:Below WB.heap.size WB _).mono aa))).mono ?_;rintro e wq⟨rfl,rfl⟩;go_wp2;refine ba ?_;refine bl 5 ?_;simp only[PL];go_wp2_with fail;refine(HK.out _ (d0.trans ((cb:Below WB.heap.size WB _).mono aa))).mono ?_;rintro e wq⟨rfl,rfl⟩;go_wp2;refine ba ?_;refine bE [6,7] 0 ?_;iterate 2 refine pO ?_
 refine pE ?_;refine cU ?_;go_wp2;go_ret;exact⟨rfl,d0.trans ((cb:Below WB.heap.size WB _).mono aa)⟩
theorem Oi(c:Cv)(N:List (Nt×Int))(L:List En)(P:List Pe)(hNU:∀y∈N,Fm y)(hLU:∀y∈L,LJ y)(hPU:∀y∈P,LN y)(hn:N.length≤1000)(hl:L.length≤1000)(hp:P.length≤1000)(vb vk vp:Value)(w:World)(hb:Sl w vb 5 (N.map di))(hk:Sl w vk 7 (L.map bh))(hv:Sl w vp 10 (P.map eT)):Calls Tryz.prog 30 #[.agg (ld c),.agg #[vb,vk,vp]] w fun e w'=>(e= .returned Y∧OY c N L P∨e= .returned F)∧Below w.heap.size w w':=by
 have hP34:=Lib.hid (fun W(k:Below w.heap.size w W)=>Is true P aa vp W (hv.below k));have hN58:=Lib.hid (fun W(k:Below w.heap.size w W)=>Oc N hNU hn vb W (hb.below k));have hL59:=Lib.hid (fun W(k:Below w.heap.size w W)=>Of L hLU hl vk W (hk.below k));have hP60:=Lib.hid (fun W(k:Below w.heap.size w W)=>Oh P hPU hp vp W (hv.below k));have hIx:=Lib.hid (fun(x:Ed)W(k:Below w.heap.size w W)=>Lj x P aa vp W (hv.below k));have hFi:=Lib.hid (fun(x:Ed)W(k:Below w.heap.size w W)=>Li x L aa vk W (hk.below k));have hKL:=Lib.hid hk;have hKP:=Lib.hid hv;have hC:=Lib.hid (fun W=>Og c W);obtain⟨ab,cb',eb,-⟩:=id hb;have hD15:=Lib.hid (fun W(k:Below w.heap.size w W)=>Dk L P hl hp vb vk vp ab (N.map di).length cb' eb W (hk.below k) (hv.below k));subst eb;obtain⟨ak,ck,rfl,-⟩:=id hk;obtain⟨ap,cp,rfl,-⟩:=id hv;clear hb hk hv hNU hLU hPU;generalize hnb:(N.map di).length=nb at*;generalize hnk:(L.map bh).length=nk at*;generalize hnp:(P.map eT).length=np at*;rw[List.length_map]at hnb hnk hnp;rw[hnb]at hn;rw[hnk]at hl;rw[hnp]at hp;replace hnb:=Lib.hid hnb;replace hnk:=Lib.hid hnk;replace hnp:=Lib.hid hnp;unfold ld at*;go_enter Tryz.func30,Tryz.ntmps30;go_wp2_with fail;refine en 2 [(29,16,_),(57,3,_)] ?_;intro WB HB d0 sWB fHB;simp only[Bx,Bo]at fHB;refine(hC.out _).mono ?_;rintro e w1⟨h1,hb⟩;have HB1:=cD hb HB;have d1:=dE d0 hb;have s1:=hb.size;have f1:=HB1.out;simp only[Bx,Bo]at f1;clear hb fHB;rcases h1 with⟨rfl,hcv⟩|rfl;case inr=>go_wp2;go_ret;exact⟨.inr rfl,d1⟩
 replace hcv:=Lib.hid hcv;go_wp2_with fail;refine(hN58.out _ d1).mono ?_;rintro e w2⟨h1,hb⟩;have HB2:=cD hb HB1;have d2:=dE d1 hb;have s2:=hb.size;have f2:=HB2.out;simp only[Bx,Bo]at f2;clear hb f1;rcases h1 with⟨rfl,hbn⟩|rfl;case inr=>go_wp2;go_ret;exact⟨.inr rfl,d2⟩
 replace hbn:=Lib.hid hbn;go_wp2_with fail;refine(hL59.out _ d2).mono ?_;rintro e w3⟨h1,hb⟩;have HB3:=cD hb HB2;have d3:=dE d2 hb;have s3:=hb.size;have f3:=HB3.out;simp only[Bx,Bo]at f3;clear hb f2;rcases h1 with⟨rfl,hbk⟩|rfl;case inr=>go_wp2;go_ret;exact⟨.inr rfl,d3⟩
 replace hbk:=Lib.hid hbk;go_wp2_with fail;refine(hP60.out _ d3).mono ?_;rintro e w4⟨h1,hb⟩;have HB4:=cD hb HB3;have d4:=dE d3 hb;have s4:=hb.size;have f4:=HB4.out;simp only[Bx,Bo]at f4;clear hb f3;rcases h1 with⟨rfl,hpr⟩|rfl;case inr=>go_wp2;go_ret;exact⟨.inr rfl,d4⟩
 replace hpr:=Lib.hid hpr;generalize hcp:gF true P=xp at*;generalize hcd:gF false P+je 2 L=xd at*;replace hcp:=Lib.hid hcp;replace hcd:=Lib.hid hcd;rcases Ro (¬((nb:Int)>c.mb)) (¬((nk:Int)>c.mbk)) (¬((xp:Int)>c.mi)) (¬((xd:Int)>c.mo))with⟨h0,h1,h2,h3⟩|⟨h0,h1,h2,h3⟩|⟨h0,h1,h2⟩|⟨h0,h1⟩|h0;rotate_left 1;·
  have b0:decide (c.mb<(nb:Int))=false:=decide_eq_false h0;have b1:decide (c.mbk<(nk:Int))=false:=decide_eq_false h1;have b2:decide (c.mi<(xp:Int))=false:=decide_eq_false h2;have b3:decide (c.mo<(xd:Int))=true:=decide_eq_true (Classical.not_not.1 h3);replace h0:=Lib.hid h0;replace h1:=Lib.hid h1;replace h2:=Lib.hid h2;replace h3:=Lib.hid h3;go_upto_region 3 with(fail);have HF:=i8 HB4;refine cQ (aw w4) [0,1,2,3,4,5,6] 22 ?_;iterate 7 refine pO ?_
  refine pE ?_;refine gY 7 ?_;refine gY 8 ?_;refine gY 9 ?_;refine gY 10 ?_;refine gY 11 ?_;refine gY 12 ?_;refine bE [13,14] 14 ?_;iterate 2 refine pO ?_
  refine pE ?_;refine gY 15 ?_;refine gY 16 ?_;refine gY 18 ?_;refine gY 19 ?_;refine bl 17 ?_;simp only[PL];go_wp2_with fail;refine(hP34.out _ (d4.trans ((cb:Below w4.heap.size w4 _).mono aa))).mono ?_;rintro e wq⟨rfl,rfl⟩;go_wp2;refine ba ?_;refine gY 20 ?_;refine bE [21,22] 6 ?_;iterate 2 refine pO ?_
  refine pE ?_;refine gY 23 ?_;refine gY 25 ?_;refine gY 26 ?_;refine bl 24 ?_;simp only[PL];go_wp2_with fail;refine(hD15.out _ (d4.trans ((cb:Below w4.heap.size w4 _).mono aa))).mono ?_;rintro e w5⟨rfl,hb⟩;have k5:Below w4.heap.size w4 w5:=aj hb cb cs;have hk5:=aw.mk k5;clear hb;go_wp2;refine ba ?_;refine gY 27 ?_;refine bE [28] 0 ?_;refine pO ?_;refine pE ?_;refine cU ?_;go_wp2;go_ret;exact⟨.inr rfl,d4.trans (k5.mono aa)⟩
 ·have b0:decide (c.mb<(nb:Int))=false:=decide_eq_false h0;have b1:decide (c.mbk<(nk:Int))=false:=decide_eq_false h1;have b2:decide (c.mi<(xp:Int))=true:=decide_eq_true (Classical.not_not.1 h2);replace h0:=Lib.hid h0;replace h1:=Lib.hid h1;replace h2:=Lib.hid h2;go_upto_region 3 with(fail);have HF:=i8 HB4;refine cQ (aw w4) [0,1,2,3,4,5,6] 22 ?_;iterate 7 refine pO ?_
  refine pE ?_;refine gY 7 ?_;refine gY 8 ?_;refine gY 9 ?_;refine gY 10 ?_;refine gY 11 ?_;refine gY 12 ?_;refine bE [13,14] 14 ?_;iterate 2 refine pO ?_
  refine pE ?_;refine gY 15 ?_;refine gY 16 ?_;refine gY 18 ?_;refine gY 19 ?_;refine bl 17 ?_;simp only[PL];go_wp2_with fail;refine(hP34.out _ (d4.trans ((cb:Below w4.heap.size w4 _).mono aa))).mono ?_;rintro e wq⟨rfl,rfl⟩;go_wp2;refine ba ?_;refine gY 20 ?_;exact tA
 ·have b0:decide (c.mb<(nb:Int))=false:=decide_eq_false h0;have b1:decide (c.mbk<(nk:Int))=true:=decide_eq_true (Classical.not_not.1 h1);replace h0:=Lib.hid h0;replace h1:=Lib.hid h1;go_upto_region 3 with(fail);have HF:=i8 HB4;refine cQ (aw w4) [0,1,2,3,4,5,6] 22 ?_;iterate 7 refine pO ?_
  refine pE ?_;refine gY 7 ?_;refine gY 8 ?_;refine gY 9 ?_;refine gY 10 ?_;refine gY 11 ?_;refine gY 12 ?_;refine bE [13,14] 14 ?_;iterate 2 refine pO ?_
  refine pE ?_;refine gN 15 ?_;refine gN 16 ?_;refine gN 17 ?_;refine gN 18 ?_;refine gN 19 ?_;refine gN 20 ?_;exact tA
 ·have b0:decide (c.mb<(nb:Int))=true:=decide_eq_true (Classical.not_not.1 h0);replace h0:=Lib.hid h0;go_upto_region 3 with(fail);have HF:=i8 HB4;refine cQ (aw w4) [0,1,2,3,4,5,6] 22 ?_;iterate 7 refine pO ?_
  refine pE ?_;refine gN 7 ?_;refine gN 8 ?_;refine gN 9 ?_;refine gN 10 ?_;refine gN 11 ?_;refine gN 12 ?_;refine bE [13,14] 14 ?_;iterate 2 refine pO ?_
  refine pE ?_;refine gN 15 ?_;refine gN 16 ?_;refine gN 17 ?_;refine gN 18 ?_;refine gN 19 ?_;refine gN 20 ?_;exact tA
 ·have b0:decide (c.mb<(nb:Int))=false:=decide_eq_false h0;have b1:decide (c.mbk<(nk:Int))=false:=decide_eq_false h1;have b2:decide (c.mi<(xp:Int))=false:=decide_eq_false h2;have b3:decide (c.mo<(xd:Int))=false:=decide_eq_false h3;have hge:=Lib.hid (And.intro h0 (And.intro h1 (And.intro h2 h3)));clear h0 h1 h2 h3;go_upto_region 3 with(fail);have HF:=i8 HB4;refine cQ (aw w4) [0,1,2,3,4,5,6] 22 ?_;iterate 7 refine pO ?_
  refine pE ?_;refine gY 7 ?_;refine gY 8 ?_;refine gY 9 ?_;refine gY 10 ?_;refine gY 11 ?_;refine gY 12 ?_;refine bE [13,14] 14 ?_;iterate 2 refine pO ?_
  refine pE ?_;refine gY 15 ?_;refine gY 16 ?_;refine gY 18 ?_;refine gY 19 ?_;refine bl 17 ?_;simp only[PL];go_wp2_with fail;refine(hP34.out _ (d4.trans ((cb:Below w4.heap.size w4 _).mono aa))).mono ?_;rintro e wq⟨rfl,rfl⟩;go_wp2;refine ba ?_;refine gY 20 ?_;refine bE [21,22] 6 ?_;iterate 2 refine pO ?_
  refine pE ?_;refine gY 23 ?_;refine gY 25 ?_;refine gY 26 ?_;refine bl 24 ?_;simp only[PL];go_wp2_with fail;refine(hD15.out _ (d4.trans ((cb:Below w4.heap.size w4 _).mono aa))).mono ?_;rintro e w5⟨rfl,hb⟩;have k5:Below w4.heap.size w4 w5:=aj hb cb cs;have hk5:=aw.mk k5;clear hb;go_wp2;refine ba ?_;refine gY 27 ?_;refine bE [28] 0 ?_;refine pO ?_;refine pE ?_;refine cU ?_;have d5:=d4.trans (k5.mono d4.size);have HB5:=cD k5 HB4;have f5:=HB5.out;simp only[Bx,Bo]at f5;have s5:=k5.size;clear f4;go_wp2_with fail;go_loopg[5]nk(fun g s5 wr=>∃k:Nat,s5= .int .i64 k∧k+g=nk∧Hid (∀y∈L.take k,Qa P y)∧aw w5 wr);case atStart=>exact⟨0,rfl,aa,Lib.hid ay,⟨Below.refl _ _⟩⟩
  case round=>
   obtain⟨k,rfl,hg,hq,hK⟩:=hrel;have HBr:=Lib.hid (Bx.mono hK.out HB5.out aF);have fBr:=HBr.out;simp only[Bx,Bo]at fBr;have dr:=d5.trans (hK.out.mono d5.size);have sr:=hK.out.size;clear f5;cases gk with
    |zero=>
     have hk:¬((k:Int)<(nk:Int)):=aa;have hqa:=Lib.hid (show∀y∈L,Qa P y from by have h:=hq.out;rw[List.take_of_length_le xR]at h;exact h);go_wp2_with fail;obtain⟨wo,rfl⟩:∃wo,wo=wr:=⟨_,rfl⟩;go_loopg[7]np(fun g s7 wx=>∃k:Nat,s7= .int .i64 k∧k+g=np∧Hid (∀p∈P.take k,p.i=false→∃y∈L,y.e=p.e)∧aw wo wx);case atStart=>exact⟨0,rfl,aa,Lib.hid ay,⟨Below.refl _ _⟩⟩
     case round=>
      obtain⟨k,rfl,hg,hq2,hK2⟩:=hrel;have HBo:=HBr;have HBr:=Lib.hid (Bx.mono hK2.out HBo.out aF);replace dr:=dr.trans (hK2.out.mono dr.size);have fB2:=HBr.out;simp only[Bx,Bo]at fB2;have sr2:=hK2.out.size;clear fBr;cases gk with
       |zero=>have hk:¬((k:Int)<(np:Int)):=aa;have hqb:=Lib.hid (show∀p∈P,p.i=false→∃y∈L,y.e=p.e from by have h:=hq2.out;rw[List.take_of_length_le pI]at h;exact h);go_wp2;go_ret;obtain⟨g1,g2,g3,g4⟩:=hge.out;exact⟨.inl ⟨rfl,hcv.out,hbn.out,hbk.out,hpr.out,by rw[←hnb.out]at*;omega,by rw[←hnk.out]at*;omega,by rw[hcp.out];omega,by rw[hcd.out];omega,hqa.out,hqb.out⟩,dr⟩
       |succ gk'=>
        have hk:(k:Int)<(np:Int):=aa;have hk0:0≤(k:Int):=aa;have hlp:k<P.length:=pI;have hxp:=List.getElem?_eq_getElem hlp;have htp:=Lib.hid (List.take_succ_eq_append_getElem hlp);have hmp:=Lib.hid (List.getElem_mem hlp);generalize P[k]=p at*;obtain⟨gp,op,cp,e0,hel⟩:=dU hKP.out (k:=k) (D:=eT p) (by rw[List.getElem?_map,hxp];rfl);simp only[Value.slice.injEq]at e0;obtain⟨rfl,-,rfl⟩:=e0;have hsub:=fK hel 0 4 [p.e.six,J p.e.hi,J p.e.lo,p.e.port] rfl (fun q v hv=>pc);have hcl:=hel.cell (k:=4) (v:=p.i) rfl;have HEp:=Lib.hid (show∀W,Below w.heap.size w W→(aR W ⟨gp,op+k*10,none⟩ 4=true∧aO W ⟨gp,op+k*10,none⟩ 4=(#[p.e.six,J p.e.hi,J p.e.lo,p.e.port]:AV))∧W.cell? ⟨gp,op+k*10+4,none⟩=some (.bool p.i)from fun W kb=>⟨bm hsub (kb.block gp hel.lt),by rw[World.cell?_of_block (a:=⟨gp,op+k*10+4,none⟩) (kb.block gp hel.lt)];exact hcl⟩);clear hel hsub hcl hxp;cases hin:p.i<;>replace hin:=Lib.hid hin;all_goals(rw[hin.out]at HEp)
        ·go_upto_region 14 with(fail);have HF:=Lib.hid (fun(W:World)(hS:(aw wr) W)=>And.intro (Bx.mono hS.out HBr.out aF) (HEp.out W (dr.trans (hS.out.mono dr.size))));refine cQ (aw wr) [0,1,2,3,4,5,6,7] 11 ?_;iterate 8 refine pO ?_
         refine pE ?_;refine gY 8 ?_;refine gY 9 ?_;refine gY 10 ?_;refine gY 11 ?_;refine gY 12 ?_;refine gY 13 ?_;refine gY 14 ?_;refine gY 15 ?_;refine bl 16 ?_;simp only[PL];go_wp2_with fail;refine(hFi.out p.e _ (dr.trans ((cb:Below wr.heap.size wr _).mono dr.size))).mono ?_;rintro e w6⟨⟨r,rfl,hr⟩,hb⟩;have k6:Below wr.heap.size wr w6:=aj hb cb cs;have hk6:=aw.mk k6;clear hb;rcases hr with⟨rfl,hno⟩|⟨i,rfl,y,hyi,hye⟩;·go_wp2;refine ba ?_;refine gY 17 ?_;refine bE [18] 0 ?_;refine pO ?_;refine pE ?_;refine cU ?_;go_wp2;go_ret;exact⟨.inr rfl,dr.trans (k6.mono dr.size)⟩
         have hi0:¬((i:Int)<0):=aa;have hyy:=Lib.hid (And.intro (List.mem_of_getElem? hyi) hye);clear hyi hye;go_wp2;refine ba ?_;refine gY 17 ?_;refine bE [18] 0 ?_;refine pO ?_;refine pE ?_;refine cU ?_;go_wp2_with fail;go_roundg gk';case measure=>omega
         case rel=>exact⟨k+1,bD,aa,Lib.hid (by rw[htp.out];intro z hz hzi;rcases List.mem_append.1 hz with h|h;exact hq2.out z h hzi;simp only[List.mem_singleton]at h;subst h;exact⟨y,hyy.out.1,hyy.out.2⟩),⟨hK2.out.trans (k6.mono hK2.out.size)⟩⟩
        ·go_upto_region 14 with(fail);have HF:=Lib.hid (fun(W:World)(hS:(aw wr) W)=>And.intro (Bx.mono hS.out HBr.out aF) (HEp.out W (dr.trans (hS.out.mono dr.size))));refine cQ (aw wr) [0,1,2,3,4,5,6,7] 11 ?_;iterate 8 refine pO ?_
         refine pE ?_;refine gN 8 ?_;refine gN 9 ?_;refine gN 10 ?_;refine gN 11 ?_;refine gN 12 ?_;refine gN 13 ?_;refine gN 14 ?_;refine gN 15 ?_;refine gN 16 ?_;refine gN 17 ?_;refine bE [18] 0 ?_;refine pO ?_;refine pE ?_;refine cU ?_;go_wp2_with fail;go_roundg gk';case measure=>omega
         case rel=>exact⟨k+1,bD,aa,Lib.hid (by rw[htp.out];intro z hz hzi;rcases List.mem_append.1 hz with h|h;exact hq2.out z h hzi;simp only[List.mem_singleton]at h;subst h;rw[hin.out]at hzi;cases hzi),⟨hK2.out.trans ((cb:Below wr.heap.size wr _).mono hK2.out.size)⟩⟩
    |succ gk'=>
     have hk:(k:Int)<(nk:Int):=aa;have hk0:0≤(k:Int):=aa;have hlk:k<L.length:=xR;have hxk:=List.getElem?_eq_getElem hlk;have htk:=Lib.hid (List.take_succ_eq_append_getElem hlk);have hmk:=Lib.hid (List.getElem_mem hlk);generalize L[k]=y at*;obtain⟨gk,ok,ck,e0,hel⟩:=dU hKL.out (k:=k) (D:=bh y) (by rw[List.getElem?_map,hxk];rfl);simp only[Value.slice.injEq]at e0;obtain⟨rfl,-,rfl⟩:=e0;have hsub:=fK hel 0 4 [y.e.six,J y.e.hi,J y.e.lo,y.e.port] rfl (fun q v hv=>pc);have hcl:=hel.cell (k:=4) (v:=y.s) rfl;have HEk:=Lib.hid (show∀W,Below w.heap.size w W→(aR W ⟨gk,ok+k*7,none⟩ 4=true∧aO W ⟨gk,ok+k*7,none⟩ 4=(#[y.e.six,J y.e.hi,J y.e.lo,y.e.port]:AV))∧W.cell? ⟨gk,ok+k*7+4,none⟩=some (.int .i64 y.s)from fun W kb=>⟨bm hsub (kb.block gk hel.lt),by rw[World.cell?_of_block (a:=⟨gk,ok+k*7+4,none⟩) (kb.block gk hel.lt)];exact hcl⟩);clear hel hsub hcl hxk;go_upto_region 8 with(fail);have HF:=Lib.hid (fun(W:World)(hS:(aw wr) W)=>And.intro (Bx.mono hS.out HBr.out aF) (HEk.out W (dr.trans (hS.out.mono dr.size))));refine cQ (aw wr) [0,1,2,3,4,5,6,7] 2 ?_;iterate 8 refine pO ?_
     refine pE ?_;refine bl 8 ?_;simp only[PL];go_wp2_with fail;refine(hIx.out y.e _ (dr.trans ((cb:Below wr.heap.size wr _).mono dr.size))).mono ?_;rintro e w6⟨⟨r,rfl,hr⟩,hb⟩;have k6:Below wr.heap.size wr w6:=aj hb cb cs;have hk6:=aw.mk k6;clear hb;go_wp2;refine ba ?_;refine bE [9] 0 ?_;refine pO ?_;refine pE ?_;refine cU ?_;have d6:=dr.trans (k6.mono dr.size);have HB6:=cD k6 HBr;have f6:=HB6.out;simp only[Bx,Bo]at f6;have s6:=k6.size;clear fBr;go_wp2_with fail;rcases hr with⟨rfl,hno⟩|⟨i,rfl,p,hpi,hpe⟩;·
      have hno:=Lib.hid hno;by_cases hs:y.s=3;·
       have hs1:(y.s==3)=true:=beq_iff_eq.2 hs;replace hs:=Lib.hid hs;go_upto_region 9 with(fail);have HF:=Lib.hid (fun(W:World)(hS:(aw w6) W)=>And.intro (Bx.mono hS.out HB6.out aF) (HEk.out W (d6.trans (hS.out.mono d6.size))));refine cQ (aw w6) [0,1,2,3,4,5,6,7,8,9] 9 ?_;iterate 10 refine pO ?_
       refine pE ?_;refine gN 10 ?_;refine gN 11 ?_;refine gN 12 ?_;refine gN 13 ?_;refine gN 14 ?_;refine gN 15 ?_;refine gN 16 ?_;refine bE [17,18] 0 ?_;iterate 2 refine pO ?_
       refine pE ?_;refine cU ?_;go_wp2;go_ret;exact⟨.inr rfl,d6.trans ((cb:Below w6.heap.size w6 _).mono d6.size)⟩
      ·have hs1:(y.s==3)=false:=beq_eq_false_iff_ne.2 hs;replace hs:=Lib.hid hs;go_upto_region 9 with(fail);have HF:=Lib.hid (fun(W:World)(hS:(aw w6) W)=>And.intro (Bx.mono hS.out HB6.out aF) (HEk.out W (d6.trans (hS.out.mono d6.size))));refine cQ (aw w6) [0,1,2,3,4,5,6,7,8,9] 9 ?_;iterate 10 refine pO ?_
       refine pE ?_;refine gN 10 ?_;refine gN 11 ?_;refine gN 12 ?_;refine gN 13 ?_;refine gN 14 ?_;refine gN 15 ?_;refine gN 16 ?_;refine bE [17,18] 0 ?_;iterate 2 refine pO ?_
       refine pE ?_;refine cU ?_;go_wp2_with fail;go_roundg gk';case measure=>omega
       case rel=>exact⟨k+1,bD,aa,Lib.hid (by rw[htk.out];intro z hz;rcases List.mem_append.1 hz with h|h;exact hq.out z h;simp only[List.mem_singleton]at h;subst h;exact .inr ⟨hs.out,.inl hno.out⟩),⟨(hK.out.trans (k6.mono hK.out.size)).trans ((cb:Below w6.heap.size w6 _).mono (hK.out.trans (k6.mono hK.out.size)).size)⟩⟩
     ·have hlp:=(List.getElem?_eq_some_iff.1 hpi).1;have hpm:=Lib.hid (List.mem_of_getElem? hpi);obtain⟨gp,op,cp',e0,hel⟩:=dU hKP.out (k:=i) (D:=eT p) (by rw[List.getElem?_map,hpi];rfl);simp only[Value.slice.injEq]at e0;obtain⟨rfl,-,rfl⟩:=e0;have hcl:=hel.cell (k:=4) (v:=p.i) rfl;have HEp:=Lib.hid (show∀W,Below w.heap.size w W→W.cell? ⟨gp,op+i*10+4,none⟩=some (.bool p.i)from fun W k=>by rw[World.cell?_of_block (a:=⟨gp,op+i*10+4,none⟩) (k.block gp hel.lt)];exact hcl);have hi0:(i:Int)≥0:=aa;have hi0':0≤(i:Int):=aa;have hi1:(i:Int)<(np:Int):=pI;replace hpe:=Lib.hid hpe;clear hel hcl hpi hlp;cases hin:p.i<;>replace hin:=Lib.hid hin;all_goals(rw[hin.out]at HEp)
      ·by_cases hs:y.s=3;·
        have hs1:(y.s==3)=true:=beq_iff_eq.2 hs;replace hs:=Lib.hid hs;go_upto_region 9 with(fail);have HF:=sS;refine cQ (aw w6) [0,1,2,3,4,5,6,7,8,9] 9 ?_;iterate 10 refine pO ?_
        refine pE ?_;refine gY 10 ?_;refine gY 11 ?_;refine gY 12 ?_;refine gY 13 ?_;refine gY 14 ?_;refine gY 15 ?_;refine gY 16 ?_;refine bE [17,18] 0 ?_;iterate 2 refine pO ?_
        refine pE ?_;refine cU ?_;go_wp2_with fail;go_roundg gk';case measure=>omega
        case rel=>exact⟨k+1,bD,aa,Lib.hid (by rw[htk.out];intro z hz;rcases List.mem_append.1 hz with h|h;exact hq.out z h;simp only[List.mem_singleton]at h;subst h;exact .inl ⟨hs.out,p,hpm.out,hpe.out,hin.out⟩),⟨(hK.out.trans (k6.mono hK.out.size)).trans ((cb:Below w6.heap.size w6 _).mono (hK.out.trans (k6.mono hK.out.size)).size)⟩⟩
       ·have hs1:(y.s==3)=false:=beq_eq_false_iff_ne.2 hs;replace hs:=Lib.hid hs;exact zQ
      ·by_cases hs:y.s=3;·have hs1:(y.s==3)=true:=beq_iff_eq.2 hs;replace hs:=Lib.hid hs;exact zQ
       ·have hs1:(y.s==3)=false:=beq_eq_false_iff_ne.2 hs;replace hs:=Lib.hid hs;go_upto_region 9 with(fail);have HF:=sS;refine cQ (aw w6) [0,1,2,3,4,5,6,7,8,9] 9 ?_;iterate 10 refine pO ?_
        refine pE ?_;refine gY 10 ?_;refine gY 11 ?_;refine gY 12 ?_;refine gY 13 ?_;refine gY 14 ?_;refine gY 15 ?_;refine gY 16 ?_;refine bE [17,18] 0 ?_;iterate 2 refine pO ?_
        refine pE ?_;refine cU ?_;go_wp2_with fail;go_roundg gk';case measure=>omega
        case rel=>exact⟨k+1,bD,aa,Lib.hid (by rw[htk.out];intro z hz;rcases List.mem_append.1 hz with h|h;exact hq.out z h;simp only[List.mem_singleton]at h;subst h;exact .inr ⟨hs.out,.inr ⟨p,hpm.out,hpe.out,hin.out⟩⟩),⟨(hK.out.trans (k6.mono hK.out.size)).trans ((cb:Below w6.heap.size w6 _).mono (hK.out.trans (k6.mono hK.out.size)).size)⟩⟩
end
section
attribute[local go_sem high]ah
attribute[local simp high]ah
theorem CU:(Tryz.prog.info? 171).map (·.size)=some 4:=af
theorem rM:lj 171:=fun _ _ _ _ _ _ _=>rfl
theorem t9:lh 171 4:=l6 CU Tryz.underlying171 rfl
theorem qt:ll 171:=fun _ _ _ _ _ _ _ _=>rfl
theorem td:li 171 4:=mG CU
attribute[go_sem↓]rM qt
attribute[go_sem]t9 td
theorem wI:(Tryz.prog.info? 172).map (·.size)=some 64:=af
theorem MB(w:World):(isAgg 172).run Tryz.prog w= .ok true w:=by unfold isAgg;rw[Sem.run_bind,run_underlying Tryz.underlying172 w];rfl
theorem rN:lj 172:=fun _ _ _ _ _ _ _=>rfl
theorem ua:lh 172 64:=l6 wI Tryz.underlying172 rfl
theorem qu:ll 172:=fun _ _ _ _ _ _ _ _=>rfl
theorem te:li 172 64:=mG wI
attribute[go_sem↓]rN qu
attribute[go_sem]ua te
theorem yL(s:ByteArray):(Value.string s).oneCell'=true:=rfl
attribute[local go_sem]yL
theorem NU{x:Int}(h0:0≤x)(h1:x≤9223372036854775807):wrap64 (bits .and .u64 x 9223372036854775807)=x:=by obtain⟨k,rfl⟩:=Int.eq_ofNat_of_zero_le h0;rw[u64_and _ _ h0 aa az az];show wrap64 ((k&&&(2^63-1):Nat):Int)=k;rw[Nat.and_two_pow_sub_one_eq_mod,Nat.mod_eq_of_lt aa];unfold wrap64;omega
def Qx(c:Cv)(v:Int):Array Value:=#[.string {data:=#[105,110]},.int .i64 c.mi,.int .i64 0,.int .i64 65535,.string {data:=#[111,117,116]},.int .i64 c.mo,.int .i64 0,.int .i64 65535,.string {data:=#[115,104,97,114,100,115]},.int .i64 c.s,.int .i64 1,.int .i64 8,.string {data:=#[98,97,110,115]},.int .i64 c.mb,.int .i64 0,.int .i64 1024,.string {data:=#[98,111,111,107]},.int .i64 c.mbk,.int .i64 0,.int .i64 1024,.string {data:=#[115,101,99,114,101,116]},.int .i64 v,.int .i64 0,.int .i64 9223372036854775807,.string {data:=#[103,114,111,117,112]},.int .i64 c.g,.int .i64 0,.int .i64 64,.string {data:=#[112,105,110,103]},.int .i64 c.p,.int .i64 0,.int .i64 64,.string {data:=#[119,111,114,107]},.int .i64 c.k,.int .i64 0,.int .i64 64,.string {data:=#[116,105,109,101]},.int .i64 c.t,.int .i64 0,.int .i64 64,.string {data:=#[104,97,108,102]},.int .i64 c.half,.int .i64 1,.int .i64 1073741824,.string {data:=#[108,105,109,105,116]},.int .i64 c.lim,.int .i64 1,.int .i64 10000,.string {data:=#[98,97,110,102,111,114]},.int .i64 c.ban,.int .i64 1,.int .i64 1073741824,.string {data:=#[98,97,115,101]},.int .i64 c.base,.int .i64 1,.int .i64 1073741824,.string {data:=#[99,97,112]},.int .i64 c.cap,.int .i64 c.base,.int .i64 1073741824,.string {data:=#[106,105,116,116,101,114]},.int .i64 c.jit,.int .i64 0,.int .i64 1073741824]
theorem Ll(c:Cv)(hc:OV c)(v:Int)(hv:0≤v∧v≤9223372036854775807):∀k:Nat,k<16→∃(s:ByteArray)(n a b:Int),(∀w:World,(Instr.index 172 (.agg (Qx c v)) k).run Tryz.prog w= .ok (.agg #[.string s,n,a,b]) w)∧a≤n∧n≤b:=by
 intro k hk;obtain⟨⟨a1,a2,a3,a4,a5⟩,⟨b1,b2,b3,b4⟩,⟨d1,d2,d3,d4,d5,d6⟩,-⟩:=hc;have:k=0∨k=1∨k=2∨k=3∨k=4∨k=5∨k=6∨k=7∨k=8∨k=9∨k=10∨k=11∨k=12∨k=13∨k=14∨k=15:=aa;rcases this with rfl|rfl|rfl|rfl|rfl|rfl|rfl|rfl|rfl|rfl|rfl|rfl|rfl|rfl|rfl|rfl;·exact⟨{data:=#[105,110]},c.mi,0,65535,fun w=>af,a1.1,a1.2⟩
 ·exact⟨{data:=#[111,117,116]},c.mo,0,65535,fun w=>af,a2.1,a2.2⟩
 ·exact⟨{data:=#[115,104,97,114,100,115]},c.s,1,8,fun w=>af,a3.1,a3.2⟩
 ·exact⟨{data:=#[98,97,110,115]},c.mb,0,1024,fun w=>af,a4.1,a4.2⟩
 ·exact⟨{data:=#[98,111,111,107]},c.mbk,0,1024,fun w=>af,a5.1,a5.2⟩
 ·exact⟨{data:=#[115,101,99,114,101,116]},v,0,9223372036854775807,fun w=>af,hv.1,hv.2⟩
 ·exact⟨{data:=#[103,114,111,117,112]},c.g,0,64,fun w=>af,b1.1,b1.2⟩
 ·exact⟨{data:=#[112,105,110,103]},c.p,0,64,fun w=>af,b2.1,b2.2⟩
 ·exact⟨{data:=#[119,111,114,107]},c.k,0,64,fun w=>af,b3.1,b3.2⟩
 ·exact⟨{data:=#[116,105,109,101]},c.t,0,64,fun w=>af,b4.1,b4.2⟩
 ·exact⟨{data:=#[104,97,108,102]},c.half,1,1073741824,fun w=>af,d1.1,d1.2⟩
 ·exact⟨{data:=#[108,105,109,105,116]},c.lim,1,10000,fun w=>af,d2.1,d2.2⟩
 ·exact⟨{data:=#[98,97,110,102,111,114]},c.ban,1,1073741824,fun w=>af,d3.1,d3.2⟩
 ·exact⟨{data:=#[98,97,115,101]},c.base,1,1073741824,fun w=>af,d4.1,d4.2⟩
 ·exact⟨{data:=#[99,97,112]},c.cap,c.base,1073741824,fun w=>af,d5.1,d5.2⟩
 ·exact⟨{data:=#[106,105,116,116,101,114]},c.jit,0,1073741824,fun w=>af,d6.1,d6.2⟩
theorem MG(c:Cv)(v:Int)(hv:wrap64 (bits .and .u64 c.sec 9223372036854775807)=v)(w:World):Calls Tryz.prog 71 #[.agg (ld c)] w fun e w'=>e= .returned (.agg (Qx c v))∧Below w.heap.size w w':=by
 unfold ld Qx;go_enter Tryz.func71,Tryz.ntmps71;go_wp2;refine bodyPost_ret (v:=.agg (#[.string {data:=#[105,110]},.int .i64 c.mi,.int .i64 0,.int .i64 65535,.string {data:=#[111,117,116]},.int .i64 c.mo,.int .i64 0,.int .i64 65535,.string {data:=#[115,104,97,114,100,115]},.int .i64 c.s,.int .i64 1,.int .i64 8,.string {data:=#[98,97,110,115]},.int .i64 c.mb,.int .i64 0,.int .i64 1024,.string {data:=#[98,111,111,107]},.int .i64 c.mbk,.int .i64 0,.int .i64 1024,.string {data:=#[115,101,99,114,101,116]},.int .i64 v,.int .i64 0,.int .i64 9223372036854775807,.string {data:=#[103,114,111,117,112]},.int .i64 c.g,.int .i64 0,.int .i64 64,.string {data:=#[112,105,110,103]},.int .i64 c.p,.int .i64 0,.int .i64 64,.string {data:=#[119,111,114,107]},.int .i64 c.k,.int .i64 0,.int .i64 64,.string {data:=#[116,105,109,101]},.int .i64 c.t,.int .i64 0,.int .i64 64,.string {data:=#[104,97,108,102]},.int .i64 c.half,.int .i64 1,.int .i64 1073741824,.string {data:=#[108,105,109,105,116]},.int .i64 c.lim,.int .i64 1,.int .i64 10000,.string {data:=#[98,97,110,102,111,114]},.int .i64 c.ban,.int .i64 1,.int .i64 1073741824,.string {data:=#[98,97,115,101]},.int .i64 c.base,.int .i64 1,.int .i64 1073741824,.string {data:=#[99,97,112]},.int .i64 c.cap,.int .i64 c.base,.int .i64 1073741824,.string {data:=#[106,105,116,116,101,114]},.int .i64 c.jit,.int .i64 0,.int .i64 1073741824])) (aN (t:=172) Tryz.results71 _ _ _ rfl ?_ ?_ wI MB) rfl ?_;·go_simp
 ·go_simp
 exact⟨rfl,cb⟩
theorem Nf(c:Cv)(hc:OV c)(h0:0≤c.sec)(w:World):Calls Tryz.prog 41 #[.agg (ld c)] w fun e w'=>e= .returned Y∧Below w.heap.size w w':=by
 have HA:=Lib.hid (MG c c.sec (NU h0 hc.2.2.2));have HR:=Lib.hid (Ll c hc c.sec ⟨h0,hc.2.2.2⟩);have hs:¬(c.sec>9223372036854775807):=by have:=hc.2.2.2;omega
 clear hc h0;generalize Qx c c.sec=RW at*;unfold ld at*;go_enter Tryz.func41,Tryz.ntmps41;go_wp2_with fail;refine en 1 [(29,16,_)] ?_;intro WB HB d0 sWB fHB;simp only[Bx,Bo]at fHB;refine(HA.out _).mono ?_;rintro e w1⟨rfl,hb⟩;have HB1:=cD hb HB;have d1:=dE d0 hb;clear hb fHB HA;go_wp2_with fail;go_loopg[10]16(fun g s10 wr=>∃k:Nat,s10= .int .i64 k∧k+g=16∧aw w wr);case atStart=>exact⟨0,rfl,aa,⟨d1⟩⟩
 case round=>
  obtain⟨k,rfl,hg,HK⟩:=hrel;cases gk with
   |zero=>have hk:¬((k:Int)<16):=aa;go_wp2;go_ret;exact⟨rfl,HK.out⟩
   |succ m=>
    have hk:(k:Int)<16:=aa;obtain⟨s,n,a,b,hx,hn1,hn2⟩:=HR.out k aa;have e1:¬(n<a):=aa;have e2:¬(b<n):=aa;have e3:¬(n>b):=aa;clear HR hn1 hn2;go_wp2;go_roundg m;case measure=>omega
    case rel=>exact⟨k+1,bD,aa,⟨HK.out.trans ((cb:Below wr.heap.size wr _).mono HK.out.size)⟩⟩
end
end Go.Proofs.YtnncjbkepakgpaaGreat
