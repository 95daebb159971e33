/- NO BANS. A TREE THAT HAS A SUBNET, TOO: both roots. THE SUBNETS THAT AN ADDRESS IS IN. HOW LONG AN ADDRESS IS BANNED. HOW LONG AN ADDRESS IS BANNED: the longest of its bans. -/
import Derived.Test.YtnncjbkepakgpaaGreatA19
namespace Go.Proofs.YtnncjbkepakgpaaGreat
open Go.RowKit Qv
set_option linter.unusedVariables false
set_option linter.unusedSimpArgs false
set_option maxRecDepth 100000
set_option maxHeartbeats 4000000
section
attribute[local go_sem↓]bv bj
attribute[local go_sem]bN bz dC bq
theorem Aa(w:World):Calls Tryz.prog 238 #[] w fun e w'=>e= .returned (H w.heap.size 0)∧w'=w.alloc (.cells (#[.pointer none,.pointer none,Z]) 341):=by go_enter Tryz.func238,Tryz.ntmps238;go_wp2;go_ret;exact⟨rfl,rfl⟩
theorem A5(t:Int)(w:World):Calls Tryz.prog 188 #[V,t] w fun e w'=>e= .returned (H w.heap.size 0)∧w'=w.alloc (.cells (#[.pointer none,.pointer none,Z]) 341):=by
 go_enter Tryz.func188,Tryz.ntmps188;go_wp2_with(go_at_call 238;refine(Aa _).mono ?_;rintro e w1⟨rfl,rfl⟩);go_loopg[5,13]0(fun g s5 s13 wr=>s5= .pointer (some ⟨w.heap.size,0,none⟩)∧s13= .int .i64 0∧wr=w.alloc (.cells (#[.pointer none,.pointer none,Z]) 341));case atStart=>exact⟨rfl,rfl,rfl⟩
 case round=>obtain⟨rfl,rfl,rfl⟩:=hrel;go_wp2;go_ret;exact⟨rfl,rfl⟩
theorem Kh(c:Nat)(w:World):Calls Tryz.prog 242 #[.agg (#[F,U,J (aM c)])] w fun e w'=>e= .returned Z∧w'=w.alloc (.cells (#[F,U,J (aM c)]) 34):=by go_enter Tryz.func242,Tryz.ntmps242;go_wp2;go_ret;exact⟨rfl,rfl⟩
theorem AL(g c:Nat)(w:World)(hg:g<w.heap.size)(h0:w.cell? ⟨g,0,none⟩=some (.pointer none)):Calls Tryz.prog 189 #[H g 0,.agg (#[F,U,J (aM c)])] w fun e w'=>e= .returned V∧Below w.heap.size w w':=by
 have hg2:g<w.heap.size+1:=aa;go_enter Tryz.func189,Tryz.ntmps189;go_upto_region 4 with(go_at_call 177;refine(gD c _).mono ?_;rintro e w1⟨rfl,hb⟩;have hk:=aw.mk hb;have xx:=cZ hk.out;(try have zz:=zs w.heap.size w1.heap.size);clear hb);have hg3:g<w1.heap.size:=aa;have hgc:w1.cell? ⟨g,0,none⟩=some (.pointer none):=by rw[hk.out.cell (p:=⟨g,0,none⟩) aF,World.cell?_of_block (w:=w) (Below.heap_alloc w _ g hg)];exact h0
 refine bH af af ?_;repeat
  (
   first|go_big_quiet_skip|
    (
     go_big_quiet_want;apply bp;·
      intro W hS;have xx:=cZ hS.out;(try have zz:=zs w.heap.size W.heap.size);have hgW:g<W.heap.size:=Nat.lt_of_lt_of_le hg3 hS.out.size;have hcW:W.cell? ⟨g,0,none⟩=some (.pointer none):=by rw[hS.out.cell (p:=⟨g,0,none⟩) hg3,hgc]
      go_simp;try first|with_reducible rfl|(go_at_call 242;refine(Kh c _).mono ?_;rintro e w'⟨rfl,rfl⟩;exact⟨rfl,cP hS (nO)⟩)
     go_big_quiet_on;try simp only[PT]))
 refine wpQuiet_nil ?_;intro w2 hS2;have xxb:=cZ hS2.out;(try have zzb:=zs w.heap.size w2.heap.size);go_wp2;go_loopg[5,6]0(fun g s5 s6 wr=>s5= .slice none 0 0∧s6= .pointer none∧wr=w2);case atStart=>exact⟨rfl,rfl,rfl⟩
 case round=>
  obtain⟨rfl,rfl,rfl⟩:=hrel;go_upto_region 5 with(fail);refine bH af af ?_;repeat
   (
    first|go_big_quiet_skip|
     (
      go_big_quiet_want;apply bp;·intro W hS;have xx:=cZ hS.out;(try have zz:=zs w.heap.size W.heap.size);go_simp;try first|with_reducible rfl
      go_big_quiet_on;try simp only[PT]))
  refine wpQuiet_nil ?_;intro w3 hS3;have xxc:=cZ hS3.out;(try have zzc:=zs w.heap.size w3.heap.size);go_wp2;go_ret;exact⟨rfl,i6⟩
theorem nG(c:Nat)(t:Int)(w:World):Calls Tryz.prog 140 #[V,.agg (#[F,U,J (aM c)]),t] w fun e w'=>e= .returned Z∧Below w.heap.size w w':=by
 go_enter Tryz.func140,Tryz.ntmps140;go_wp2;go_region_with(first|(go_at_call 188;refine(A5 t _).mono ?_;rintro e w1⟨rfl,rfl⟩)|(go_at_call 189;refine(AL _ c _ ay dq).mono ?_;rintro e w1⟨rfl,hb⟩;have hk:=aw.mk hb;have xx:=cZ hk.out;(try have zz:=zs w.heap.size w1.heap.size);clear hb));all_goals go_wp2
 all_goals go_ret
 all_goals exact⟨rfl,i6⟩
end
section
attribute[local go_sem high]ah
attribute[local simp high]ah
noncomputable def oX(n:Nt)(v:Int)(t:Tn×Tn):Tn×Tn:=if n.s=true then(t.1,lU n v t.2)else(lU n v t.1,t.2)
theorem mC{p:Prop}(h:PQ p:=by have HB:=Lib.hid (dY:Bx ((w.alloc (.cells (#[n.s,J n.h,J n.l,n.b]) 39)).alloc (.cells (#[v0,v1,c]) 341)) w.heap.size [(39,4,#[n.s,J n.h,J n.l,n.b]),(341,3,#[v0,v1,c])]);have d0:Below w.heap.size w ((w.alloc (.cells (#[n.s,J n.h,J n.l,n.b]) 39)).alloc (.cells (#[v0,v1,c]) 341)):=bY;have sWB:w.heap.size+2≤((w.alloc (.cells (#[n.s,J n.h,J n.l,n.b]) 39)).alloc (.cells (#[v0,v1,c]) 341)).heap.size:=ay;exact pq (And.intro HB (And.intro d0 sWB))):p:=h
theorem vy{p:Prop}(h:PQ p:=by have HB3:=Lib.hid (HB2.out.set (i:=1) (C:=#[v0,v1,I (wrap64 (c+1))]) (fun _ _ _ e=>iy));have d3:Below w.heap.size w (w2.setRow (w.heap.size+1) (#[v0,v1,I (wrap64 (c+1))])):=ai d2 aa _;have s3:w.heap.size+2≤(w2.setRow (w.heap.size+1) (#[v0,v1,I (wrap64 (c+1))])).heap.size:=pJ;exact pq (And.intro HB3 (And.intro d3 s3))):p:=h
theorem vP{p:Prop}(h:p:=by
 refine(HFa.out w3).mono ?_;rintro e W6⟨rfl,hb⟩;have HB6:=Lib.hid (Bx.mono (L:=[(39,4,#[n.s,J n.h,J n.l,n.b]),(341,3,#[v0,v1,c])]) hb HB3.out aF);have d6:=dE d3 hb;have s6:=hb.size;clear hb;have ho6:=Lib.hid (ho.below d6 hg);have HB60:=Lib.hid (show Bx W6 w.heap.size [(39,4,#[n.s,J n.h,J n.l,n.b])]from⟨HB6.out.1,trivial⟩);have f6:=HB6.out;have f6o:=ho6.out;simp only[Bx,Bo]at f6;simp only[Bo]at f6o;go_upto_region 10 with(fail);have HF:=Lib.hid (fun(W:World)(hS:(ax (w.heap.size+1) W6) W)=>And.intro (Bx.upto hS HB60.out (.inr ay)) (ho6.out.upto hS aa));refine cQ (ax (w.heap.size+1) W6) [0,1,2,3,4,5,6,7,8,9,11] 3 ?_;iterate 11 refine pO ?_
 refine pE ?_;refine bl 10 ?_;simp only[PL];go_wp2_with fail;refine(qY n hn v _ _ _ (q1.keep (R':=R1) (Kp.below (d6.drew)) fun _ h=>h)).mono ?_;rintro e w7⟨p',rfl,ht,hb⟩;obtain⟨pa,rfl⟩:=ht.ptr;have b7:Below W6.heap.size W6 w7:=((Below.refl W6.heap.size W6).drew).trans hb;have HB7:=cD b7 HB6;have HT7:=Lib.hid (show fJ (Rn R1 W6.heap.size) w7 (.pointer pa) _ from ht);have f7:=HB7.out;simp only[Bx,Bo]at f7;clear hb ht;go_wp2;refine ba ?_;refine bE [12] 1 ?_;refine pO ?_;refine pE ?_;refine bl 13 ?_;simp only[PL];go_wp2;refine ba ?_;refine cU ?_;go_wp2;go_ret;have d8:Below w.heap.size w (w7.setRow (w.heap.size+1) (#[v0,(.pointer pa),c])):=ai (d6.trans (b7.mono d6.size)) aa _;exact⟨_,rfl,⟨w.heap.size+1,_,_,_,rfl,.inr aa,(HB7.out.set (i:=1) (C:=#[v0,(.pointer pa),c]) (fun _ _ _ e=>iy)).2.1,o1,rfl,q0.keep (Kp.below d8) (fun q h=>.inl (hR1s.out q h)),HT7.out.keep (Kp.setRow (Pk)) (fun q h=>h.imp (hR1s.out q) (fun h=>aa))⟩,d8⟩):p:=h
theorem vQ{p:Prop}(h:p:=by
 refine(HFa.out w3).mono ?_;rintro e W6⟨rfl,hb⟩;have HB6:=Lib.hid (Bx.mono (L:=[(39,4,#[n.s,J n.h,J n.l,n.b]),(341,3,#[v0,v1,c])]) hb HB3.out aF);have d6:=dE d3 hb;have s6:=hb.size;clear hb;have ho6:=Lib.hid (ho.below d6 hg);have HB60:=Lib.hid (show Bx W6 w.heap.size [(39,4,#[n.s,J n.h,J n.l,n.b])]from⟨HB6.out.1,trivial⟩);have f6:=HB6.out;have f6o:=ho6.out;simp only[Bx,Bo]at f6;simp only[Bo]at f6o;go_upto_region 10 with(fail);have HF:=Lib.hid (fun(W:World)(hS:(ax (w.heap.size+1) W6) W)=>And.intro (Bx.upto hS HB60.out (.inr ay)) (ho6.out.upto hS aa));refine cQ (ax (w.heap.size+1) W6) [0,1,2,3,4,5,6,7,8,9,11] 3 ?_;iterate 11 refine pO ?_
 refine pE ?_;refine bl 10 ?_;simp only[PL];go_wp2_with fail;refine(qY n hn v _ _ _ (q0.keep (R':=R1) (Kp.below (d6.drew)) fun _ h=>h)).mono ?_;rintro e w7⟨p',rfl,ht,hb⟩;obtain⟨pa,rfl⟩:=ht.ptr;have b7:Below W6.heap.size W6 w7:=((Below.refl W6.heap.size W6).drew).trans hb;have HB7:=cD b7 HB6;have HT7:=Lib.hid (show fJ (Rn R1 W6.heap.size) w7 (.pointer pa) _ from ht);have f7:=HB7.out;simp only[Bx,Bo]at f7;clear hb ht;go_wp2;refine ba ?_;refine bE [12] 1 ?_;refine pO ?_;refine pE ?_;refine bl 13 ?_;simp only[PL];go_wp2;refine ba ?_;refine cU ?_;go_wp2;go_ret;have d8:Below w.heap.size w (w7.setRow (w.heap.size+1) (#[(.pointer pa),v1,c])):=ai (d6.trans (b7.mono d6.size)) aa _;exact⟨_,rfl,⟨w.heap.size+1,_,_,_,rfl,.inr aa,(HB7.out.set (i:=1) (C:=#[(.pointer pa),v1,c]) (fun _ _ _ e=>iy)).2.1,rfl,o2,HT7.out.keep (Kp.setRow (Pk)) (fun q h=>h.imp (hR1s.out q) (fun h=>aa)),q1.keep (Kp.below d8) (fun q h=>.inl (hR1s.out q h))⟩,d8⟩):p:=h
theorem Jk(n:Nt)(hn:jB n)(hr:Q9 n=true)(v:Int){R:Nat→Prop}(p:Value)(t:Tn×Tn)(w:World)(h:qo R w p t.1 t.2):Calls Tryz.prog 241 #[p,.agg #[n.s,J n.h,J n.l,n.b],v] w fun e w'=>∃p',e= .returned p'∧qo (Rn R w.heap.size) w' p' (oX n v t).1 (oX n v t).2∧Below w.heap.size w w':=by
 obtain⟨t0,t1⟩:=t;have HN:=Lib.hid (fun(W:World)=>wM n.s n.h n.l n.b hn.2.1 W);rw[show Fg n.s n.h n.l n.b=true from hr]at HN;have HFa:=Lib.hid (fun(W:World)=>AW n.s n.h n.l W);have HG:=Lib.hid (fun(W:World)(k:Below w.heap.size w W)=>get_at n hn hr p t0 t1 W (h.keep (R':=R) (Kp.below k) fun _ h=>h));generalize wE n t0 t1=q at HG;obtain⟨qv,qb⟩:=q;obtain⟨R1,hR1⟩:∃R1:Nat→Prop,R1=fun q=>R q∧q<w.heap.size:=⟨_,rfl⟩;obtain⟨g,v0,v1,c,rfl,⟨-,hg⟩,ho,o1,o2,q0,q1⟩:=h.cut;rw[←hR1]at q0 q1;have hRl:=Lib.hid (show∀q,R1 q→q<w.heap.size from fun q h=>B3);have hR1s:=Lib.hid (show∀q,R1 q→R q from fun q h=>by rw[hR1]at h;exact h.1);clear hR1 h;have fo:=ho;simp only[Bo]at fo;unfold oX;by_cases hs:n.s=true;·
  rw[if_pos hs]at HFa⊢;clear hs;cases qb with
   |false=>go_enter Tryz.func241,Tryz.ntmps241;go_wp2_with fail;obtain⟨HB,d0,sWB⟩:=mC;generalize((w.alloc (.cells (#[n.s,J n.h,J n.l,n.b]) 39)).alloc (.cells (#[v0,v1,c]) 341))=WB at*;have fHB:=HB.out;simp only[Bx,Bo]at fHB;refine(HN.out _).mono ?_;rintro e w1⟨rfl,hb⟩;have HB1:=cD hb HB;have d1:=dE d0 hb;have sw1:=hb.size;have fHB1:=HB1.out;simp only[Bx,Bo]at fHB1;clear hb fHB;go_wp2_with fail;refine(HG.out w1 d1).mono ?_;rintro e w2⟨rfl,hb⟩;have HB2:=cD hb HB1;have d2:=dE d1 hb;have s2:=hb.size;have fB2:=HB2.out;simp only[Bx,Bo]at fB2;clear hb fHB1;go_wp2_with fail;obtain⟨HB3,d3,s3⟩:=vy;clear fB2 HB2;generalize(w2.setRow (w.heap.size+1) (#[v0,v1,I (wrap64 (c+1))]))=w3 at*;generalize wrap64 (c+1)=c at*;exact vP
   |true=>go_enter Tryz.func241,Tryz.ntmps241;go_wp2_with fail;obtain⟨HB,d0,sWB⟩:=mC;generalize((w.alloc (.cells (#[n.s,J n.h,J n.l,n.b]) 39)).alloc (.cells (#[v0,v1,c]) 341))=WB at*;have fHB:=HB.out;simp only[Bx,Bo]at fHB;refine(HN.out _).mono ?_;rintro e w1⟨rfl,hb⟩;have HB1:=cD hb HB;have d1:=dE d0 hb;have sw1:=hb.size;have fHB1:=HB1.out;simp only[Bx,Bo]at fHB1;clear hb fHB;go_wp2_with fail;refine(HG.out w1 d1).mono ?_;rintro e w2⟨rfl,hb⟩;have HB2:=cD hb HB1;have d2:=dE d1 hb;have s2:=hb.size;have fB2:=HB2.out;simp only[Bx,Bo]at fB2;clear hb fHB1;go_wp2_with fail;obtain⟨w3,hw3⟩:∃w3,w3=w2:=⟨_,rfl⟩;rw[←hw3]at HB2 d2 s2 fB2⊢;clear hw3;have HB3:=HB2;have d3:=d2;have s3:w.heap.size+2≤w3.heap.size:=aa;exact vP
 ·rw[if_neg hs]at HFa⊢;clear hs;cases qb with
   |false=>go_enter Tryz.func241,Tryz.ntmps241;go_wp2_with fail;obtain⟨HB,d0,sWB⟩:=mC;generalize((w.alloc (.cells (#[n.s,J n.h,J n.l,n.b]) 39)).alloc (.cells (#[v0,v1,c]) 341))=WB at*;have fHB:=HB.out;simp only[Bx,Bo]at fHB;refine(HN.out _).mono ?_;rintro e w1⟨rfl,hb⟩;have HB1:=cD hb HB;have d1:=dE d0 hb;have sw1:=hb.size;have fHB1:=HB1.out;simp only[Bx,Bo]at fHB1;clear hb fHB;go_wp2_with fail;refine(HG.out w1 d1).mono ?_;rintro e w2⟨rfl,hb⟩;have HB2:=cD hb HB1;have d2:=dE d1 hb;have s2:=hb.size;have fB2:=HB2.out;simp only[Bx,Bo]at fB2;clear hb fHB1;go_wp2_with fail;obtain⟨HB3,d3,s3⟩:=vy;clear fB2 HB2;generalize(w2.setRow (w.heap.size+1) (#[v0,v1,I (wrap64 (c+1))]))=w3 at*;generalize wrap64 (c+1)=c at*;exact vQ
   |true=>go_enter Tryz.func241,Tryz.ntmps241;go_wp2_with fail;obtain⟨HB,d0,sWB⟩:=mC;generalize((w.alloc (.cells (#[n.s,J n.h,J n.l,n.b]) 39)).alloc (.cells (#[v0,v1,c]) 341))=WB at*;have fHB:=HB.out;simp only[Bx,Bo]at fHB;refine(HN.out _).mono ?_;rintro e w1⟨rfl,hb⟩;have HB1:=cD hb HB;have d1:=dE d0 hb;have sw1:=hb.size;have fHB1:=HB1.out;simp only[Bx,Bo]at fHB1;clear hb fHB;go_wp2_with fail;refine(HG.out w1 d1).mono ?_;rintro e w2⟨rfl,hb⟩;have HB2:=cD hb HB1;have d2:=dE d1 hb;have s2:=hb.size;have fB2:=HB2.out;simp only[Bx,Bo]at fB2;clear hb fHB1;go_wp2_with fail;obtain⟨w3,hw3⟩:∃w3,w3=w2:=⟨_,rfl⟩;rw[←hw3]at HB2 d2 s2 fB2⊢;clear hw3;have HB3:=HB2;have d3:=d2;have s3:w.heap.size+2≤w3.heap.size:=aa;exact vQ
end
section
attribute[local go_sem high]ah
attribute[local simp high]ah
theorem vR{p:Prop}(h:p:=by
 obtain⟨hO,hdr,hsr,hBr⟩:=HHr.out;have HBr:=Lib.hid hBr;have HO:=Lib.hid hO;have dr:=Lib.hid hdr;clear hBr HHr HB2 fB2 d2 q0 q1 hO hdr;have fBr:=HBr.out;simp only[Bx,Bo]at fBr;have sr:w.heap.size+1≤wr.heap.size:=aa;have hac:acc.length≤100000:=by have e:=congrArg List.length (he.trans hCV.out);rw[List.length_append]at e;have:=hcl.out;omega
 cases t with
  |nil=>
   obtain rfl:=(show _=Value.pointer none from ht);have hE:acc=CV:=by rw[←hCV.out,←he,nX,List.append_nil]
   subst hE;clear he hs ht;go_upto_region 5 with(fail);have HF:=i8 HBr;refine cQ (aw wr) [0,1,2] 8 ?_;iterate 3 refine pO ?_
   refine pE ?_;refine gN 3 ?_;refine gN 4 ?_;refine gN 5 ?_;refine gN 6 ?_;refine gN 7 ?_;refine gN 8 ?_;refine gN 9 ?_;refine bE [10] 0 ?_;refine pO ?_;refine pE ?_;refine cU ?_;go_wp2;go_ret;exact⟨_,rfl,(HO.out.below cb).weaken aa,dr.out.trans ((cb:Below wr.heap.size wr _).mono aa)⟩
  |node m x has k0 k1=>
   obtain⟨hm,gm,v0,v1,rfl,hgm,ho,o1,o2,t0',t1'⟩:=ht;replace hgm:=hRl.out _ hgm;have ho':=Lib.hid (show Bo wr gm 344 8 #[m.s,J m.h,J m.l,m.b,x,has,v0,v1]from Bo.below ho dr.out hgm);have fo:=ho'.out;simp only[Bo]at fo;have hmb:Rg m.b:=by have:=hm.2.2;unfold Rg;omega
   rw[nX]at he;cases hv:Ko m.s m.h m.l m.b s h l with
    |false=>
     rw[hv]at he;have hE:acc=CV:=by rw[←hCV.out,←he];simp
     subst hE;clear he hs;go_upto_region 5 with(fail);have HF:=Lib.hid (fun(W:World)(hS:(aw wr) W)=>And.intro (Bx.mono hS.out HBr.out aF) (ho'.out.below hS.out aa));refine cQ (aw wr) [0,1,2] 8 ?_;iterate 3 refine pO ?_
     refine pE ?_;refine gY 3 ?_;refine gY 4 ?_;refine gY 5 ?_;refine gY 6 ?_;refine gY 7 ?_;refine gY 8 ?_;refine bl 9 ?_;simp only[PL];go_wp2_with fail;refine(HH.out m hm _).mono ?_;rintro e w5⟨rfl,hb⟩;have k5:Below wr.heap.size wr w5:=aj hb cb cs;have hk5:=aw.mk k5;have s5:=k5.size;rw[hv];clear hb;go_wp2;refine ba ?_;refine bE [10] 0 ?_;refine pO ?_;refine pE ?_;refine cU ?_;go_wp2;go_ret;exact⟨_,rfl,(HO.out.below k5).weaken aa,dr.out.trans (k5.mono dr.out.size)⟩
    |true=>
     rw[hv,if_pos rfl]at he;rcases(qH s h l m.b hh hl hmb).1 with hr|hr;·
      go_upto_region 5 with(fail);have HF:=Lib.hid (fun(W:World)(hS:(aw wr) W)=>And.intro (Bx.mono hS.out HBr.out aF) (ho'.out.below hS.out aa));refine cQ (aw wr) [0,1,2] 8 ?_;iterate 3 refine pO ?_
      refine pE ?_;refine gY 3 ?_;refine gY 4 ?_;refine gY 5 ?_;refine gY 6 ?_;refine gY 7 ?_;refine gY 8 ?_;refine bl 9 ?_;simp only[PL];go_wp2_with fail;refine(HH.out m hm _).mono ?_;rintro e w5⟨rfl,hb⟩;have k5:Below wr.heap.size wr w5:=aj hb cb cs;have hk5:=aw.mk k5;have s5:=k5.size;rw[hv];clear hb;go_wp2;refine ba ?_;refine bE [10] 0 ?_;refine pO ?_;refine pE ?_;refine cU ?_;have d5:Below w.heap.size w w5:=dr.out.trans (k5.mono dr.out.size);have HB5:=cD k5 HBr;have ho5:=Lib.hid (ho'.out.below k5 aa);have HO5:=Lib.hid (HO.out.below k5);clear hk5 fo fBr;have f5:=ho5.out;have fB5:=HB5.out;simp only[Bx,Bo]at fB5;simp only[Bo]at f5;cases has with
       |false=>
        have HO7:=HO5;go_upto_region 8 with(fail);have HF:=Lib.hid (fun(W:World)(hS:(aw w5) W)=>And.intro (Bx.mono hS.out HB5.out aF) (ho5.out.below hS.out aa));refine cQ (aw w5) [0,1,2,3,4,5,6,7,9,10] 4 ?_;iterate 10 refine pO ?_
        refine pE ?_;refine bl 8 ?_;simp only[PL];go_wp2_with fail;refine(HBi.out m.b hmb _).mono ?_;rintro e w8⟨rfl,hb⟩;have k8:Below w5.heap.size w5 w8:=aj hb cb cs;have hk8:=aw.mk k8;have s8:=k8.size;rw[hr];clear hb;go_wp2;refine ba ?_;refine bE [11,12,13] 0 ?_;iterate 3 refine pO ?_
        refine pE ?_;refine cU ?_;have dz:Below w.heap.size w w8:=d5.trans (k8.mono d5.size);have HBz:=cD k8 HB5;have HOz:=Lib.hid (HO7.out.below k8);have hsz:k0.sz<gk:=uA;go_wp2_with fail;go_roundg(k0.sz);case measure=>exact hsz
        case rel=>exact⟨k0,acc,t0',by rw[←he];simp[hr],Nat.le_refl _,Lib.hid ⟨HOz.out,dz,aa,HBz.out⟩⟩
       |true=>
        go_wp2_with(at_builtin;refine FG rfl (.tmp 36) (.tmp 41) rfl _ _ (acc.map di) [#[m.s,J m.h,J m.l,m.b,x]] rfl (HO5.out.below ((Below.refl w5.heap.size w5).alloc (Nat.le_refl _) (.cells #[m.s,J m.h,J m.l,m.b,x] 288))) _ _ _ rfl (cY w5 #[m.s,J m.h,J m.l,m.b,x] 288 5 _ rfl rfl rfl) aF ix ?_;intro v7 w7 hown hbel hnil;have k7:Below WB.heap.size w5 w7:=((Below.refl WB.heap.size w5).alloc aa _).trans hbel;have HO7:=Lib.hid (show aV w7 WB.heap.size 288 5 v7 ((acc++[(m,x)]).map di)by rw[List.map_append];exact hown);clear hown hbel hnil);have HB7:=cD k7 HB5;have ho7:=Lib.hid (ho5.out.below k7 aa);have d7:Below w.heap.size w w7:=d5.trans (k7.mono aa);have s7:=k7.size;clear f5 fB5 HO5 HB5 ho5;have f7:=ho7.out;have fB7:=HB7.out;simp only[Bx,Bo]at fB7;simp only[Bo]at f7;go_upto_region 8 with(fail);have HF:=Lib.hid (fun(W:World)(hS:(aw w7) W)=>And.intro (Bx.mono hS.out HB7.out aF) (ho7.out.below hS.out aa));refine cQ (aw w7) [0,1,2,3,4,5,6,7,9,10] 4 ?_;iterate 10 refine pO ?_
        refine pE ?_;refine bl 8 ?_;simp only[PL];go_wp2_with fail;refine(HBi.out m.b hmb _).mono ?_;rintro e w8⟨rfl,hb⟩;have k8:Below w7.heap.size w7 w8:=aj hb cb cs;have hk8:=aw.mk k8;have s8:=k8.size;rw[hr];clear hb;go_wp2;refine ba ?_;refine bE [11,12,13] 0 ?_;iterate 3 refine pO ?_
        refine pE ?_;refine cU ?_;have dz:Below w.heap.size w w8:=d7.trans (k8.mono d7.size);have HBz:=cD k8 HB7;have HOz:=Lib.hid (HO7.out.below k8);have hsz:k0.sz<gk:=uA;go_wp2_with fail;go_roundg(k0.sz);case measure=>exact hsz
        case rel=>exact⟨k0,acc++[(m,x)],t0',by rw[←he];simp[hr],Nat.le_refl _,Lib.hid ⟨HOz.out,dz,aa,HBz.out⟩⟩
     ·go_upto_region 5 with(fail);have HF:=Lib.hid (fun(W:World)(hS:(aw wr) W)=>And.intro (Bx.mono hS.out HBr.out aF) (ho'.out.below hS.out aa));refine cQ (aw wr) [0,1,2] 8 ?_;iterate 3 refine pO ?_
      refine pE ?_;refine gY 3 ?_;refine gY 4 ?_;refine gY 5 ?_;refine gY 6 ?_;refine gY 7 ?_;refine gY 8 ?_;refine bl 9 ?_;simp only[PL];go_wp2_with fail;refine(HH.out m hm _).mono ?_;rintro e w5⟨rfl,hb⟩;have k5:Below wr.heap.size wr w5:=aj hb cb cs;have hk5:=aw.mk k5;have s5:=k5.size;rw[hv];clear hb;go_wp2;refine ba ?_;refine bE [10] 0 ?_;refine pO ?_;refine pE ?_;refine cU ?_;have d5:Below w.heap.size w w5:=dr.out.trans (k5.mono dr.out.size);have HB5:=cD k5 HBr;have ho5:=Lib.hid (ho'.out.below k5 aa);have HO5:=Lib.hid (HO.out.below k5);clear hk5 fo fBr;have f5:=ho5.out;have fB5:=HB5.out;simp only[Bx,Bo]at fB5;simp only[Bo]at f5;cases has with
       |false=>
        have HO7:=HO5;go_upto_region 8 with(fail);have HF:=Lib.hid (fun(W:World)(hS:(aw w5) W)=>And.intro (Bx.mono hS.out HB5.out aF) (ho5.out.below hS.out aa));refine cQ (aw w5) [0,1,2,3,4,5,6,7,9,10] 4 ?_;iterate 10 refine pO ?_
        refine pE ?_;refine bl 8 ?_;simp only[PL];go_wp2_with fail;refine(HBi.out m.b hmb _).mono ?_;rintro e w8⟨rfl,hb⟩;have k8:Below w5.heap.size w5 w8:=aj hb cb cs;have hk8:=aw.mk k8;have s8:=k8.size;rw[hr];clear hb;go_wp2;refine ba ?_;refine bE [11,12,13] 0 ?_;iterate 3 refine pO ?_
        refine pE ?_;refine cU ?_;have dz:Below w.heap.size w w8:=d5.trans (k8.mono d5.size);have HBz:=cD k8 HB5;have HOz:=Lib.hid (HO7.out.below k8);have hsz:k1.sz<gk:=uA;go_wp2_with fail;go_roundg(k1.sz);case measure=>exact hsz
        case rel=>exact⟨k1,acc,t1',by rw[←he];simp[hr],Nat.le_refl _,Lib.hid ⟨HOz.out,dz,aa,HBz.out⟩⟩
       |true=>
        go_wp2_with(at_builtin;refine FG rfl (.tmp 36) (.tmp 41) rfl _ _ (acc.map di) [#[m.s,J m.h,J m.l,m.b,x]] rfl (HO5.out.below ((Below.refl w5.heap.size w5).alloc (Nat.le_refl _) (.cells #[m.s,J m.h,J m.l,m.b,x] 288))) _ _ _ rfl (cY w5 #[m.s,J m.h,J m.l,m.b,x] 288 5 _ rfl rfl rfl) aF ix ?_;intro v7 w7 hown hbel hnil;have k7:Below WB.heap.size w5 w7:=((Below.refl WB.heap.size w5).alloc aa _).trans hbel;have HO7:=Lib.hid (show aV w7 WB.heap.size 288 5 v7 ((acc++[(m,x)]).map di)by rw[List.map_append];exact hown);clear hown hbel hnil);have HB7:=cD k7 HB5;have ho7:=Lib.hid (ho5.out.below k7 aa);have d7:Below w.heap.size w w7:=d5.trans (k7.mono aa);have s7:=k7.size;clear f5 fB5 HO5 HB5 ho5;have f7:=ho7.out;have fB7:=HB7.out;simp only[Bx,Bo]at fB7;simp only[Bo]at f7;go_upto_region 8 with(fail);have HF:=Lib.hid (fun(W:World)(hS:(aw w7) W)=>And.intro (Bx.mono hS.out HB7.out aF) (ho7.out.below hS.out aa));refine cQ (aw w7) [0,1,2,3,4,5,6,7,9,10] 4 ?_;iterate 10 refine pO ?_
        refine pE ?_;refine bl 8 ?_;simp only[PL];go_wp2_with fail;refine(HBi.out m.b hmb _).mono ?_;rintro e w8⟨rfl,hb⟩;have k8:Below w7.heap.size w7 w8:=aj hb cb cs;have hk8:=aw.mk k8;have s8:=k8.size;rw[hr];clear hb;go_wp2;refine ba ?_;refine bE [11,12,13] 0 ?_;iterate 3 refine pO ?_
        refine pE ?_;refine cU ?_;have dz:Below w.heap.size w w8:=d7.trans (k8.mono d7.size);have HBz:=cD k8 HB7;have HOz:=Lib.hid (HO7.out.below k8);have hsz:k1.sz<gk:=uA;go_wp2_with fail;go_roundg(k1.sz);case measure=>exact hsz
        case rel=>exact⟨k1,acc++[(m,x)],t1',by rw[←he];simp[hr],Nat.le_refl _,Lib.hid ⟨HOz.out,dz,aa,HBz.out⟩⟩):p:=h
theorem Gz:(Tryz.prog.info? 288).map (fun i=>(i.zero,i.size,i.bytes))=some (some (.agg #[F,U,U,Z,Z]),5,40):=af
theorem FG{ops:Array Oper}{rest:List Oper}{o:Oper}{a:Act}{w:World}{Q:Exit→Act→World→Prop}(hgd:o.guard=none)(s x:Operand)(ho:o.op= .call {callee:=.builtin .append,args:=#[s,x],argTypes:=#[283,283]})(B:Nat)(v:Value)(L M:List (Array Value))(hs:a.eval s=v)(hown:aV w B 288 5 v L)(ad:Addr)(m k:Nat)(hx:a.eval x= .slice (some ad) m k)(hM:Sl w (E (some ad) m k) 5 M)(hlen:L.length+M.length≤200000)(hbase:B≤w.heap.size)(h:∀v' w',aV w' B 288 5 v' (L++M)→Below B w w'→(v'= .slice none 0 0↔v= .slice none 0 0∧M=[])→wpList Tryz.prog ops Q rest (a.put o.dst v') w'):wpList Tryz.prog ops Q (o::rest) a w:=by obtain⟨i0,hi,hz0,hz1,hz2⟩:=info_parts Gz;exact eK hgd s x 283 ho B 288 i0 (.agg #[F,U,U,Z,Z]) 5 40 Tryz.underlying283 hi hz0 hz1 hz2 rfl az v L M hs hown ad m k hx hM aa aa hbase h
def di(y:Nt×Int):Array Value:=#[.bool y.1.s,J y.1.h,J y.1.l,I y.1.b,I y.2]
noncomputable def nX(s:Bool)(h l:Int):Tn→List (Nt×Int)
 | .nil=>[]
 | .node m x has k0 k1=>if Ko m.s m.h m.l m.b s h l=true then(if has=true then[(m,x)]else[])++(if xJ s h l m.b=0 then nX s h l k0 else nX s h l k1)else[]
theorem lB(s:Bool)(h l:Int):∀t:Tn,(nX s h l t).length≤t.sz
 | .nil=>Nat.le_refl _
 | .node m x has k0 k1=>by
  have h0:=lB s h l k0;have h1:=lB s h l k1;rw[nX,Tn.sz];split;·rw[List.length_append];split<;>split<;>simp<;>omega
  ·simp
theorem Gk(s:Bool)(h l:Int)(hh:U6 h)(hl:U6 l)(hr:ir s h l=true){R:Nat→Prop}(p:Value)(t0 t1:Tn)(hz:t0.sz≤100000∧t1.sz≤100000)(w:World)(hT:qo R w p t0 t1):Calls Tryz.prog 189 #[p,.agg #[s,J h,J l]] w fun e w'=>∃v,e= .returned v∧aV w' w.heap.size 288 5 v ((nX s h l (if s=true then t1 else t0)).map di)∧Below w.heap.size w w':=by
 have HR:=Lib.hid (fun(W:World)=>kH s h l hl W);rw[hr]at HR;have HH:=Lib.hid (fun(m:Nt)(hm:jB m)(W:World)=>NL m.s m.h m.l m.b s h l hm.2.1 hl W);have HFa:=Lib.hid (fun(W:World)=>AW s h l W);have HBi:=Lib.hid (fun(i:Int)(hi:Rg i)(W:World)=>(qH s h l i hh hl hi).2 W);obtain⟨R1,hR1⟩:∃R1:Nat→Prop,R1=fun q=>R q∧q<w.heap.size:=⟨_,rfl⟩;obtain⟨g,v0,v1,c,rfl,⟨-,hg⟩,ho,o1,o2,q0,q1⟩:=hT.cut;rw[←hR1]at q0 q1;have hRl:=Lib.hid (show∀q,R1 q→q<w.heap.size from fun q h=>B3);clear hR1 hT hr;have fo:=ho;simp only[Bo]at fo;generalize hCVe:nX s h l (if s=true then t1 else t0)=CV;by_cases hs0:s=true;·
  rw[if_pos hs0]at HFa hCVe;clear hs0;have hCV:=Lib.hid hCVe;have hcl:=lB s h l t1;rw[hCVe]at hcl;have hcl:=Lib.hid hcl;clear hCVe;go_enter Tryz.func189,Tryz.ntmps189;go_wp2_with fail;refine en 1 [(34,3,_)] ?_;intro WB HB d0 sWB fHB;simp only[Bx,Bo]at fHB;have ho1:=Lib.hid (ho.below d0 hg);refine(HR.out _).mono ?_;rintro e w1⟨rfl,hb⟩;have HB1:=cD hb HB;have d1:=dE d0 hb;have ho2:=Lib.hid (ho.below d1 hg);have s1:=hb.size;have fB1:=HB1.out;have f2:=ho2.out;simp only[Bx,Bo]at fB1;simp only[Bo]at f2;clear hb fHB HB ho1 d0;go_upto_region 4 with(fail);have HF:=Lib.hid (fun(W:World)(hS:(aw w1) W)=>And.intro (Bx.mono hS.out HB1.out aF) (ho2.out.below hS.out aa));refine cQ (aw w1) [0,1,3,4] 4 ?_;iterate 4 refine pO ?_
  refine pE ?_;refine bl 2 ?_;simp only[PL];go_wp2_with fail;refine(HFa.out _).mono ?_;rintro e w2⟨rfl,hb⟩;have k2:Below w1.heap.size w1 w2:=aj hb cb cs;have hk2:=aw.mk k2;have s2:=k2.size;clear hb;go_wp2;refine ba ?_;refine bE [5,6,7] 0 ?_;iterate 3 refine pO ?_
  refine pE ?_;refine cU ?_;have d2:=d1.trans (hk2.out.mono aa);have HB2:=Lib.hid (Bx.mono hk2.out HB1.out aF);have fB2:=HB2.out;simp only[Bx,Bo]at fB2;have sB2:WB.heap.size≤w2.heap.size:=aa;clear hk2 k2 fB1 f2 HB1 ho2 d1;go_wp2_with fail;go_loopg[5,6]t1.sz(fun g s5 s6 wr=>∃(t:Tn)(acc:List (Nt×Int)),fJ R1 w s6 t∧acc++nX s h l t=nX s h l t1∧t.sz≤g∧Hid (aV wr WB.heap.size 288 5 s5 (acc.map di)∧Below w.heap.size w wr∧WB.heap.size≤wr.heap.size∧Bx wr w.heap.size [(34,3,#[s,J h,J l])]));case atStart=>exact⟨t1,[],q1,ay,Nat.le_refl _,Lib.hid ⟨aV.nil _ _ _ _,d2,aa,HB2.out⟩⟩
  case round=>obtain⟨t,acc,ht,he,hs,HHr⟩:=hrel;exact vR
 ·rw[if_neg hs0]at HFa hCVe;clear hs0;have hCV:=Lib.hid hCVe;have hcl:=lB s h l t0;rw[hCVe]at hcl;have hcl:=Lib.hid hcl;clear hCVe;go_enter Tryz.func189,Tryz.ntmps189;go_wp2_with fail;refine en 1 [(34,3,_)] ?_;intro WB HB d0 sWB fHB;simp only[Bx,Bo]at fHB;have ho1:=Lib.hid (ho.below d0 hg);refine(HR.out _).mono ?_;rintro e w1⟨rfl,hb⟩;have HB1:=cD hb HB;have d1:=dE d0 hb;have ho2:=Lib.hid (ho.below d1 hg);have s1:=hb.size;have fB1:=HB1.out;have f2:=ho2.out;simp only[Bx,Bo]at fB1;simp only[Bo]at f2;clear hb fHB HB ho1 d0;go_upto_region 4 with(fail);have HF:=Lib.hid (fun(W:World)(hS:(aw w1) W)=>And.intro (Bx.mono hS.out HB1.out aF) (ho2.out.below hS.out aa));refine cQ (aw w1) [0,1,3,4] 4 ?_;iterate 4 refine pO ?_
  refine pE ?_;refine bl 2 ?_;simp only[PL];go_wp2_with fail;refine(HFa.out _).mono ?_;rintro e w2⟨rfl,hb⟩;have k2:Below w1.heap.size w1 w2:=aj hb cb cs;have hk2:=aw.mk k2;have s2:=k2.size;clear hb;go_wp2;refine ba ?_;refine bE [5,6,7] 0 ?_;iterate 3 refine pO ?_
  refine pE ?_;refine cU ?_;have d2:=d1.trans (hk2.out.mono aa);have HB2:=Lib.hid (Bx.mono hk2.out HB1.out aF);have fB2:=HB2.out;simp only[Bx,Bo]at fB2;have sB2:WB.heap.size≤w2.heap.size:=aa;clear hk2 k2 fB1 f2 HB1 ho2 d1;go_wp2_with fail;go_loopg[5,6]t0.sz(fun g s5 s6 wr=>∃(t:Tn)(acc:List (Nt×Int)),fJ R1 w s6 t∧acc++nX s h l t=nX s h l t0∧t.sz≤g∧Hid (aV wr WB.heap.size 288 5 s5 (acc.map di)∧Below w.heap.size w wr∧WB.heap.size≤wr.heap.size∧Bx wr w.heap.size [(34,3,#[s,J h,J l])]));case atStart=>exact⟨t0,[],q0,ay,Nat.le_refl _,Lib.hid ⟨aV.nil _ _ _ _,d2,aa,HB2.out⟩⟩
  case round=>obtain⟨t,acc,ht,he,hs,HHr⟩:=hrel;exact vR
end
section
attribute[local go_sem↓]tS rV
attribute[local go_sem]wX ui
attribute[local go_sem high]ah
attribute[local simp high]ah
noncomputable def NO(now:Int)(b:Nt×Int)(t:Tn×Tn):Tn×Tn:=if(decide (now<b.2)&&(!(wE b.1 t.1 t.2).2||decide ((wE b.1 t.1 t.2).1<b.2)))=true then oX b.1 b.2 t else t
noncomputable def qC(now:Int)(L:List (Nt×Int))(t:Tn×Tn):Tn×Tn:=L.foldl (fun t b=>NO now b t) t
theorem vU{p:Prop}(h:p:=by
 have hidS:=Lib.hid hidS;go_wp2_with fail;refine(HLv.out w2).mono ?_;rintro e w3⟨rfl,hb3⟩;have d3:Below w.heap.size w w3:=hd.out.trans ((k2.trans (hb3.mono s2)).mono sr);have HT3:=Lib.hid (HT.out.keep (R':=(w.heap.size≤·)) (Kp.below (k2.trans (hb3.mono s2))) fun _ h=>h);have HB3:=cD hb3 HB2;have fB3:=HB3.out;simp only[Bx,Bo]at fB3;clear hb3 fB2;go_wp2_with fail;refine(Jk b.1 hb.1 hb.2 b.2 _ t w3 HT3.out).mono ?_;rintro e w4⟨p',rfl,hT4,hb4⟩;have d4:=d3.trans (hb4.mono d3.size);have HT4:=Lib.hid (hT4.keep (R':=(w.heap.size≤·)) (Kp.below (Below.refl _ _)) fun q h=>h.elim id (fun h=>Nat.le_trans d3.size h));clear hb4 hT4;go_wp2_with fail;go_roundg gk';case measure=>omega
 case rel=>exact⟨k+1,oX b.1 b.2 t,ay,aa,Pn,by have:=I6 b.1 b.2 t;omega,Lib.hid ⟨HT4.out,d4⟩⟩):p:=h
theorem vV{p:Prop}(h:p:=by
 have hidS:=Lib.hid hidS;go_wp2_with fail;refine(HLv.out w2).mono ?_;rintro e w3⟨rfl,hb3⟩;have d3:Below w.heap.size w w3:=hd.out.trans ((k2.trans (hb3.mono s2)).mono sr);have HT3:=Lib.hid (HT.out.keep (R':=(w.heap.size≤·)) (Kp.below (k2.trans (hb3.mono s2))) fun _ h=>h);have HB3:=cD hb3 HB2;have fB3:=HB3.out;simp only[Bx,Bo]at fB3;clear hb3 fB2;go_wp2_with fail;go_roundg gk';case measure=>omega
 case rel=>exact⟨k+1,t,ay,aa,Pn,aa,Lib.hid ⟨HT3.out,d3⟩⟩):p:=h
theorem C3(r:Int)(a:Tn)(k:Tn×Tn):(t7 r a k).1.sz+(t7 r a k).2.sz≤a.sz+k.1.sz+k.2.sz:=by unfold t7;split<;>simp only<;>omega
theorem Ay(old:Tn)(m n:Nt)(v i:Int):(kj old m n v i).sz≤old.sz+2:=by
 have h1:=C3 (jE m i) old (.nil,.nil);unfold kj;generalize t7 (jE m i) old (.nil,.nil)=q at*;obtain⟨a,b⟩:=q;simp only[Tn.sz]at h1;split;·simp only[Tn.sz];omega
 ·have h2:=C3 (jE n i) (.node n v true .nil .nil) (a,b);generalize t7 (jE n i) (.node n v true .nil .nil) (a,b)=q at*;obtain⟨c,d⟩:=q;simp only[Tn.sz]at h2⊢;omega
theorem oY(n:Nt)(v:Int):∀t:Tn,(lU n v t).sz≤t.sz+2
 | .nil=>by rw[lU];simp[Tn.sz]
 | .node m x has k0 k1=>by
  have h0:=oY n v k0;have h1:=oY n v k1;rw[tH];split;·exact Ay _ _ _ _ _
  ·split;·simp only[Tn.sz];omega
   ·split<;>simp only[Tn.sz]<;>omega
theorem I6(n:Nt)(v:Int)(t:Tn×Tn):(oX n v t).1.sz+(oX n v t).2.sz≤t.1.sz+t.2.sz+2:=by have h0:=oY n v t.1;have h1:=oY n v t.2;unfold oX;split<;>simp only<;>omega
def Fl(b:Nt×Int):Prop:=jB b.1∧Q9 b.1=true
theorem Hj(b:Nt×Int)(now:Int)(w:World):Calls Tryz.prog 240 #[.agg #[.bool b.1.s,J b.1.h,J b.1.l,I b.1.b,I b.2],now] w fun e w'=>e= .returned (.bool (decide (now<b.2)))∧Below w.heap.size w w':=by go_enter Tryz.func240,Tryz.ntmps240;go_wp2;go_ret;exact⟨rfl,bY⟩
theorem G5(now:Int)(L:List (Nt×Int))(hL:∀b∈L,Fl b)(hl:L.length≤10000)(v:Value)(w:World)(h:Sl w v 5 (L.map di)):Calls Tryz.prog 188 #[v,now] w fun e w'=>∃p,e= .returned p∧qo (w.heap.size≤·) w' p (qC now L (.nil,.nil)).1 (qC now L (.nil,.nil)).2∧(qC now L (.nil,.nil)).1.sz+(qC now L (.nil,.nil)).2.sz≤2*L.length∧Below w.heap.size w w':=by
 have HS:=Lib.hid h;obtain⟨a,cap,rfl,-⟩:=id h;rw[List.length_map];have HL:=Lib.hid hL;clear h hL;go_enter Tryz.func188,Tryz.ntmps188;go_wp2_with(go_at_call 238;refine(Aa _).mono ?_;rintro e w1⟨rfl,rfl⟩);go_loopg[5,13]L.length(fun g s5 s13 wr=>∃(k:Nat)(t:Tn×Tn),s13= .int .i64 k∧k+g=L.length∧qC now (L.drop k) t=qC now L (.nil,.nil)∧t.1.sz+t.2.sz≤2*k∧Hid (qo (w.heap.size≤·) wr s5 t.1 t.2∧Below w.heap.size w wr));case atStart=>exact⟨0,(.nil,.nil),rfl,aa,rfl,by simp[Tn.sz],Lib.hid ⟨⟨w.heap.size,_,_,0,rfl,Nat.le_refl _,(dY:Bx (w.alloc (.cells #[.pointer none,.pointer none,Z] 341)) w.heap.size [(341,3,#[.pointer none,.pointer none,Z])]).1,rfl,rfl,rfl,rfl⟩,bY⟩⟩
 case round=>
  obtain⟨k,t,rfl,hg,he,hsz,HH⟩:=hrel;obtain⟨hT,hd⟩:=HH.out;have HT:=Lib.hid hT;have hd:=Lib.hid hd;clear hT HH;cases gk with
   |zero=>
    have hk:¬((k:Int)<(L.length:Int)):=aa;have hE:t=qC now L (.nil,.nil):=by rw[←he,List.drop_eq_nil_of_le aa];rfl
    have hsz:=Lib.hid hsz;have hE:=Lib.hid hE;clear he;go_wp2;refine bodyPost_ret (results_tmp rfl _ _ _) rfl ⟨_,rfl,?_⟩;rw[←hE.out];exact⟨HT.out,by have:=hsz.out;omega,hd.out⟩
   |succ gk'=>
    have hkl:k<L.length:=aa;have hk:(k:Int)<(L.length:Int):=aa;have hk0:0≤(k:Int):=aa;have hkn:¬((k:Int)<0):=aa;have hdrop:=List.drop_eq_getElem_cons hkl;have hb:=HL.out _ (List.getElem_mem hkl);have hq:(L.map di)[k]? =some (di L[k]):=FX;generalize L[k]=b at*;obtain⟨g,o,cL,e0,hgw,e1,e2,-⟩:=eC HS.out hq;simp only[Value.slice.injEq]at e0;obtain⟨rfl,-,rfl⟩:=e0;have e1:=(bS (W:=w) (W':=wr) (p:=⟨g,o+k*5,none⟩) (n:=5) (hd.out.block g hgw)).1.trans e1;have e2:=(bS (W:=w) (W':=wr) (p:=⟨g,o+k*5,none⟩) (n:=5) (hd.out.block g hgw)).2.trans e2;simp only[di]at e2;have sr:=hd.out.size;clear hq;go_wp2_with fail;refine(get_at b.1 hb.1 hb.2 _ t.1 t.2 _ (HT.out.keep (R':=(w.heap.size≤·)) (Kp.below (cb:Below wr.heap.size wr _)) fun _ h=>h)).mono ?_;rintro e w2⟨rfl,hb2⟩;have HB2:=Lib.hid (Bx.mono (g:=wr.heap.size) (L:=[(143,5,#[.bool b.1.s,J b.1.h,J b.1.l,I b.1.b,I b.2])]) hb2 dY ay);have k2:Below wr.heap.size wr w2:=((Below.refl wr.heap.size wr).alloc (Nat.le_refl _) _).trans (hb2.mono ay);have s2:=k2.size;have sB2:wr.heap.size<w2.heap.size:=HB2.out.1.2.2.2.1;clear hb2;have fB2:=HB2.out;simp only[Bx,Bo]at fB2;have HLv:=Lib.hid (fun(W:World)=>Hj b now W);have hidS:NO now b t=if(decide (now<b.2)&&(!(wE b.1 t.1 t.2).2||decide ((wE b.1 t.1 t.2).1<b.2)))=true then oX b.1 b.2 t else t:=rfl;generalize wE b.1 t.1 t.2=q at*;obtain⟨qv,qb⟩:=q;cases hlv:decide (now<b.2);·rw[hlv]at HLv hidS;simp only[Bool.false_and,Bool.false_eq_true,if_false]at hidS;clear hlv;exact vV
    ·rw[hlv]at HLv hidS;simp only[Bool.true_and]at hidS;clear hlv;cases qb with
      |false=>simp only[Bool.not_false,Bool.true_or,if_true]at hidS;exact vU
      |true=>
       simp only[Bool.not_true,Bool.false_or,decide_eq_true_eq]at hidS;by_cases c3:qv<b.2;·rw[if_pos c3]at hidS;exact vU
       ·rw[if_neg c3]at hidS;exact vV
end
section
attribute[local go_sem high]ah
attribute[local simp high]ah
noncomputable def CB(now:Int)(L:List (Nt×Int))(s:Bool)(h l:Int):List (Nt×Int):=nX s h l (if s=true then(qC now L (.nil,.nil)).2 else(qC now L (.nil,.nil)).1)
def Mk(a:Int)(Hx:List (Nt×Int)):Int:=Hx.foldl (fun a y=>max a y.2) a
noncomputable def tF(now:Int)(L:List (Nt×Int))(s:Bool)(h l:Int):Int:=match CB now L s h l with
 |[]=>0
 |y::r=>Mk y.2 (y::r)
theorem Hs{a:Int}{Hx:List (Nt×Int)}{k:Nat}(h:k<Hx.length):Mk a (Hx.take (k+1))=max (Mk a (Hx.take k)) Hx[k].2:=by unfold Mk;rw[List.take_succ_eq_append_getElem h,List.foldl_append];rfl
theorem I1(now:Int)(L:List (Nt×Int))(hL:∀b∈L,Fl b)(hlen:L.length≤10000)(s:Bool)(h l:Int)(hh:U6 h)(hl:U6 l)(hr:ir s h l=true)(v:Value)(w:World)(hSl:Sl w v 5 (L.map di)):Calls Tryz.prog 140 #[v,.agg #[s,J h,J l],now] w fun e w'=>e= .returned (I (tF now L s h l))∧Below w.heap.size w w':=by
 have HI:=Lib.hid (fun(W:World)(h:Sl W v 5 (L.map di))=>G5 now L hL hlen v W h);have hU:tF now L s h l=(match CB now L s h l with
  |[]=>0
  |y::r=>Mk y.2 (y::r)):=rfl;have hHs:CB now L s h l=nX s h l (if s=true then(qC now L (.nil,.nil)).2 else(qC now L (.nil,.nil)).1):=rfl;generalize hH:CB now L s h l=Hx at*;generalize hu:tF now L s h l=Ux at*;replace hU:=Lib.hid hU;replace hHs:=Lib.hid hHs;clear hH hu;go_enter Tryz.func140,Tryz.ntmps140;go_upto_region 1 with(fail);refine jg 1 [(34,3,_)] ?_;intro WB HB d0 sWB fHB;simp only[Bx,Bo]at fHB;have HF:=i8 HB;refine cQ (aw WB) [0,1,3] 3 ?_;iterate 3 refine pO ?_
 refine pE ?_;refine bl 2 ?_;simp only[PL];go_wp2_with fail;refine(HI.out _ (hSl.below (d0.trans ((cb:Below WB.heap.size WB _).mono aa)))).mono ?_;rintro e w2⟨p,rfl,hT,hsz,hb⟩;have k2:Below WB.heap.size WB w2:=aj hb cb cs;have hk2:=aw.mk k2;have s2:=k2.size;have HT:=Lib.hid hT;have hsz:=Lib.hid hsz;clear hb hT;go_wp2;refine ba ?_;refine bl 4 ?_;simp only[PL];go_wp2_with fail;refine(Gk s h l hh hl hr p _ _ (by have:=hsz.out;omega) _ (HT.out.keep (Kp.below cb) fun _ h=>h)).mono ?_;rintro e w4⟨v4,rfl,hO,hb⟩;have k4:Below w2.heap.size w2 w4:=aj hb cb cs;have s4:=k4.size;have hk4:=aw.mk (k2.trans (k4.mono s2));have HO:=Lib.hid hO;clear hb hO;go_wp2;refine ba ?_;refine bE [5] 0 ?_;refine pO ?_;refine pE ?_;refine cU ?_;have d4:Below w.heap.size w w4:=d0.trans (hk4.out.mono aa);rw[←hHs.out]at HO;have hlH:Hx.length≤20000:=by rw[hHs.out];refine Nat.le_trans (lB _ _ _ _) ?_;have:=hsz.out;split<;>omega
 replace hlH:=Lib.hid hlH;clear hHs HT hk2 k2 hk4 k4 fHB;have hn4:w.heap.size<w4.heap.size:=aa;obtain⟨a4,cap4,rfl,-⟩:=id HO.out.sl;rw[List.length_map]at HO⊢;cases Hx with
  |nil=>have e:Ux=0:=hU.out;subst e;simp only[List.length_nil]at HO⊢;clear hU;go_wp2;go_ret;exact⟨rfl,d4⟩
  |cons y r=>
   have hq:∀(k:Nat)(hk:k<(y::r).length),((y::r).map di)[k]? =some (di (y::r)[k]):=fun k hk=>by rw[List.getElem?_map,List.getElem?_eq_getElem hk];rfl
   obtain⟨g,o,cL,e0,hgw,e1,e2,-⟩:=eC HO.out.sl (hq 0 ay);simp only[Value.slice.injEq]at e0;obtain⟨rfl,-,-⟩:=e0;have hR:=Lib.hid (fun(k:Nat)(hk:k<(y::r).length)=>by obtain⟨g',o',cL',e0',-,e1',e2',-⟩:=eC HO.out.sl (hq k hk);simp only[Value.slice.injEq,Option.some.injEq,Addr.mk.injEq]at e0';obtain⟨⟨rfl,rfl,-⟩,-,-⟩:=e0';exact And.intro e1' e2');have hc0:=iV e1 (show 4<5 by omega);rw[e2]at hc0;have hc0:w4.cell? ⟨g,o+4,none⟩=some (.int .i64 y.2):=by simpa[cF,di]using hc0
   have e:Ux=Mk y.2 (y::r):=hU.out;replace e:=Lib.hid e;clear hU e1 e2 hq HO;obtain⟨T,hHl⟩:∃T,(y::r).length=T:=⟨_,rfl⟩;rw[hHl];have hT0:0<T:=by rw[←hHl];simp
   have hTn:¬((T:Int)=0):=aa;have hTz:(0:Int)<(T:Int):=aa;have hTe:((T:Int)==0)=false:=beq_eq_false_iff_ne.2 hTn;have hTb:T≤20000:=by rw[←hHl];exact hlH.out
   replace hHl:=Lib.hid hHl;go_wp2_with fail;go_loopg[8,25]T(fun g8 s8 s25 wr=>∃k:Nat,s25= .int .i64 k∧k+g8=T∧s8= .int .i64 (Mk y.2 ((y::r).take k))∧Hid (Below w4.heap.size w4 wr));case atStart=>exact⟨0,rfl,aa,rfl,Lib.hid (Below.refl _ _)⟩
   case round=>
    obtain⟨k,rfl,hg,rfl,HB4⟩:=hrel;have sr:=HB4.out.size;cases gk with
     |zero=>
      have hk:¬((k:Int)<(T:Int)):=aa;have hE:Ux=Mk y.2 ((y::r).take k):=by rw[e.out,List.take_of_length_le (by rw[hHl.out];omega)]
      replace hE:=Lib.hid hE;clear e;go_wp2;go_ret;exact⟨zr hE.out.symm,d4.trans (HB4.out.mono d4.size)⟩
     |succ gk'=>
      have hkl:k<(y::r).length:=by rw[hHl.out];omega
      have hk:(k:Int)<(T:Int):=aa;have hk0:0≤(k:Int):=aa;have hkn:¬((k:Int)<0):=aa;obtain⟨e1,e2⟩:=hR.out k hkl;have e1:=(bS (W:=w4) (W':=wr) (p:=⟨g,o+k*5,none⟩) (n:=5) (HB4.out.block g hgw)).1.trans e1;have e2:=(bS (W:=w4) (W':=wr) (p:=⟨g,o+k*5,none⟩) (n:=5) (HB4.out.block g hgw)).2.trans e2;have hm:=Hs (a:=y.2) hkl;generalize(y::r)[k]=b at*;simp only[di]at e2;replace hm:=Lib.hid hm;have hgr:g<wr.heap.size:=aa;go_wp2_with fail;go_roundg gk';case measure=>omega
      case rel=>exact⟨k+1,ay,aa,by rw[hm.out],Lib.hid (HB4.out.alloc sr _)⟩
end
end Go.Proofs.YtnncjbkepakgpaaGreat
