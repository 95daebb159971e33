/- MEMORY: what becomes of it by an operation. A DIAL, AS A LIST OF OPERATIONS: what it is told, what it holds. OPERATIONS CLEANED. -/
import Derived.Test.YtnncjbkepakgpaaGreatA20
namespace Go.Proofs.YtnncjbkepakgpaaGreat
open Go.RowKit Qv
set_option linter.unusedVariables false
set_option linter.unusedSimpArgs false
set_option maxRecDepth 100000
set_option maxHeartbeats 4000000
theorem IX{p:Prop}(h:p:=by
 rintro e w3⟨v3,rfl,ho,hb⟩;obtain⟨g3,cap3,rfl,hg3,-⟩:=ho.shape2 (hkc.out _);rw[List.length_set]at ho;have HO3:=Lib.hid ho;have HB3:=cD hb HB8;have d3:=d8.trans (hb.mono d8.size);have fB3:=HB3.out;simp only[Bx,Bo]at fB3;clear fB ho hb;go_wp2;refine bodyPost_ret (v:=.tuple #[.agg (#[m.inn,m.out,E a1 m1 c1,E a2 m2 c2,E a3 m.sh.length c3,G g3 CL.length cap3]),.agg (#[Z,F,U,U,Z,F,Z,Z,Z,Z,Z,V,V])]) (fx (t:=47) (t':=103) Tryz.results52 _ _ _ _ rfl rfl ?_ ?_ dF fu ?_ ?_ cy ea) rfl ?_;·go_simp
 ·go_simp
 ·go_simp
 ·(first|(go_simp;done)|(go_simp;rfl))
 exact oz HO.out he (ai (ai d3 aa _) aa _) (tG (T:=w.heap.size+1+1+1) (T':=w.heap.size+1+1+1+1) HO3.out aa aa) aa (fun d=>hu.old d) (QU rfl (by first|rw[if_pos hb]|rw[if_neg hb])) rfl):p:=h
def gh(m:Mm)(k:Int)(x:Int×List Nat):Mm:={m with lk:=m.lk.set k.toNat x}
def fW(m:Mm)(o:Oq):Vl:=if o.k=5 then pZ m o.a o.b o.c else if o.k=7 then⟨(dD m o).2,zP,none,none⟩else⟨0,zP,none,none⟩
def bf(m:Mm)(k:Int):Int×List Nat:=m.lk.getD k.toNat (0,[])
def kZ(m:Mm)(o:Oq)(who:Nat)(m':Mm):Prop:=if o.k=1 then m'=gh m o.lk ((who+1:Nat),(bf m o.lk).2)else if o.k=2 then∃l':List Nat,l'.Pairwise (·≤·)∧l'.length≤(bf m o.lk).2.length+1∧m'=gh m o.lk ((bf m o.lk).1,l')else if o.k=3 then m'=gh m o.lk (if(bf m o.lk).1=(who+1:Nat)then 0 else(bf m o.lk).1,(bf m o.lk).2)else if o.k=4 then∃l':List Nat,l'.Pairwise (·≤·)∧l'.length≤(bf m o.lk).2.length∧m'=gh m o.lk ((bf m o.lk).1,l')else if o.k=6 then m'=iY m o.a o.b o.c o.v else if o.k=7 then m'=(dD m o).1 else m'=m
theorem IM{R:Nat→Prop}{w w5 W8:World}{u v:Value}{l l':List (Array Value)}{T T':Nat}{C C':Array Value}(hu:Sr R w u 1 l)(hs:Sl w5 v 1 l')(hq:∀q,v.ownBlock=some q→u.ownBlock=some q∨W8.heap.size≤q)(hw:w.heap.size≤W8.heap.size)(hT:w.heap.size≤T∧T<W8.heap.size)(hT':w.heap.size≤T'∧T'<W8.heap.size):Sr (Rn R w.heap.size) ((w5.setRow T C).setRow T' C') v 1 l':=
 have hn:∀t,w.heap.size≤t∧t<W8.heap.size→v.ownBlock≠some t:=fun t ht e=>by
   rcases hq _ e with h|h;·have:=hu.1.lt h;omega
   ·omega
 ⟨(hs.upto (aP (ax.refl T w5) C) (hn T hT)).upto (aP (ax.refl T' _) C') (hn T' hT'),fun q h=>by rcases hq q h with h|h;exact .inl (hu.2 q h);exact .inr aa⟩
theorem QS{m m':Mm}{o:Oq}{who:Nat}(h:o.k=1)(h':m'=gh m o.lk ((who+1:Nat),(bf m o.lk).2)):kZ m o who m':=by unfold kZ;rw[if_pos h];exact h'
theorem QT{m m':Mm}{o:Oq}{who:Nat}(h:o.k=2)(h':∃l':List Nat,l'.Pairwise (·≤·)∧l'.length≤(bf m o.lk).2.length+1∧m'=gh m o.lk ((bf m o.lk).1,l')):kZ m o who m':=by unfold kZ;rw[if_neg aa,if_pos h];exact h'
theorem QU{m m':Mm}{o:Oq}{who:Nat}(h:o.k=3)(h':m'=gh m o.lk (if(bf m o.lk).1=(who+1:Nat)then 0 else(bf m o.lk).1,(bf m o.lk).2)):kZ m o who m':=by unfold kZ;rw[if_neg aa,if_neg aa,if_pos h];exact h'
theorem QV{m m':Mm}{o:Oq}{who:Nat}(h:o.k=4)(h':∃l':List Nat,l'.Pairwise (·≤·)∧l'.length≤(bf m o.lk).2.length∧m'=gh m o.lk ((bf m o.lk).1,l')):kZ m o who m':=by unfold kZ;rw[if_neg aa,if_neg aa,if_neg aa,if_pos h];exact h'
theorem QW{m m':Mm}{o:Oq}{who:Nat}(h:o.k=6)(h':m'=iY m o.a o.b o.c o.v):kZ m o who m':=by unfold kZ;rw[if_neg aa,if_neg aa,if_neg aa,if_neg aa,if_pos h];exact h'
theorem QX{m m':Mm}{o:Oq}{who:Nat}(h:o.k=7)(h':m'=(dD m o).1):kZ m o who m':=by unfold kZ;rw[if_neg aa,if_neg aa,if_neg aa,if_neg aa,if_neg aa,if_pos h];exact h'
theorem PH{m m':Mm}{o:Oq}{who:Nat}(h:o.k=5∨o.k=8)(h':m'=m):kZ m o who m':=by unfold kZ;rw[if_neg aa,if_neg aa,if_neg aa,if_neg aa,if_neg aa,if_neg aa];exact h'
theorem aV.shape2{W:World}{B:Nat}{e:TypeId}{n:Nat}{v:Value}{L:List (Array Value)}(h:aV W B e n v L)(h0:0<L.length):∃g cap,v= .slice (some ⟨g,0,none⟩) L.length cap∧B≤g∧g<W.heap.size:=h.shape fun e=>by rw[e]at h0;exact absurd h0 ay
theorem AQ{R:Nat→Prop}{w W:World}{s1 s2 s3 s4:Value}{m:Mm}(hM:o5 R w #[m.inn,m.out,s1,s2,s3,s4] m)(d:Below w.heap.size w W):So (Rn R w.heap.size) W s1 5 m.bn∧So (Rn R w.heap.size) W s2 7 m.bk∧Se Fa (Rn R w.heap.size) W s3 2 m.sh∧Se DK (Rn R w.heap.size) W s4 2 m.lk:=by obtain⟨tb,tk,vS,vL,e,h2,h3,h4,h5⟩:=hM;simp only[Array.mk.injEq,List.cons.injEq,true_and,and_true]at e;obtain⟨rfl,rfl,rfl,rfl⟩:=e;exact⟨h2.old d,h3.old d,Se.old (P:=Fa) iH h4 d,Se.old (P:=DK) iK h5 d⟩
theorem tG{W:World}{B e n:Nat}{v:Value}{L:List (Array Value)}{T T':Nat}{C C':Array Value}(h:aV W B e n v L)(hT:T<B)(hT':T'<B):aV ((W.setRow T C).setRow T' C') B e n v L:=(h.upto (aP (ax.refl T W) C) hT).upto (aP (ax.refl T' _) C') hT'
theorem Rc(n:Int):vC n zP V V=(#[n,F,U,U,Z,F,Z,Z,Z,Z,Z,V,V]:AV):=rfl
theorem oz{R:Nat→Prop}{w W:World}{s1 s2 s3 s4 v u:Value}{m:Mm}{o:Oq}{who k B':Nat}{CL:List (Array Value)}{b:Int}{l:List Nat}(hM:o5 R w #[m.inn,m.out,s1,s2,s3,s4] m)(he:i5 (DK R) w CL m.lk)(d:Below w.heap.size w W)(ho:aV W B' 186 2 v (CL.set k #[b,u]))(hB:w.heap.size≤B')(hS:Below w.heap.size w W→Sr (Rn R w.heap.size) W u 1 (l.map qE))(hD:kZ m o who (gh m k (b,l)))(hv:fW m o=⟨0,zP,none,none⟩):∃M' CV m',Ending.returned (.tuple #[.agg #[m.inn,m.out,s1,s2,s3,v],.agg #[Z,F,U,U,Z,F,Z,Z,Z,Z,Z,V,V]])=Ending.returned (.tuple #[.agg M',.agg CV])∧o5 (Rn R w.heap.size) W M' m'∧jD (Rn R w.heap.size) W CV (fW m o)∧kZ m o who m'∧Below w.heap.size w W:=by obtain⟨k1,k2,k3,k4⟩:=AQ hM d;rw[hv];refine⟨_,_,gh m k (b,l),rfl,⟨_,_,_,_,rfl,k1,k2,k3,⟨_,(ho.weaken hB).sr.new,?_⟩⟩,⟨_,_,rfl,rfl,rfl,rfl,rfl⟩,hD,d⟩;exact lC (i5.keep (P:=DK) iK he (Kp.below d) fun _ h=>.inl h) k ⟨_,rfl,hS d⟩
theorem IR{R:Nat→Prop}{w W:World}{s1 s2 s3 s4:Value}{m:Mm}{o:Oq}{who:Nat}(hM:o5 R w #[m.inn,m.out,s1,s2,s3,s4] m)(d:Below w.heap.size w W)(hD:kZ m o who (dD m o).1)(hv:fW m o=⟨(dD m o).2,zP,none,none⟩):∃M' CV m',Ending.returned (.tuple #[.agg #[I (dD m o).1.inn,I (dD m o).1.out,s1,s2,s3,s4],.agg #[I (dD m o).2,F,U,U,Z,F,Z,Z,Z,Z,Z,V,V]])=Ending.returned (.tuple #[.agg M',.agg CV])∧o5 (Rn R w.heap.size) W M' m'∧jD (Rn R w.heap.size) W CV (fW m o)∧kZ m o who m'∧Below w.heap.size w W:=by have k:=AQ hM d;rw[hv];refine⟨_,_,(dD m o).1,rfl,⟨_,_,_,_,rfl,?_⟩,⟨_,_,rfl,rfl,rfl,rfl,rfl⟩,hD,d⟩;unfold dD;split<;>split<;>exact k
theorem yN{R:Nat→Prop}{w W:World}{s1 s2 s3 s4:Value}{m:Mm}{o:Oq}{who:Nat}{CV:Array Value}(hM:o5 R w #[m.inn,m.out,s1,s2,s3,s4] m)(d:Below w.heap.size w W)(hD:kZ m o who m)(hv:jD (Rn R w.heap.size) W CV (fW m o)):∃M' CV' m',Ending.returned (.tuple #[.agg #[m.inn,m.out,s1,s2,s3,s4],.agg CV])=Ending.returned (.tuple #[.agg M',.agg CV'])∧o5 (Rn R w.heap.size) W M' m'∧jD (Rn R w.heap.size) W CV' (fW m o)∧kZ m o who m'∧Below w.heap.size w W:=⟨_,_,m,rfl,⟨_,_,_,_,rfl,AQ hM d⟩,hv,hD,d⟩
theorem RK(S:Nat)(h0:1≤S)(h1:S≤8)(m:Mm)(hm:Fb S m)(o:Oq)(hf:E9 S o)(hst:o.k=6→vZ m o.a o.b o.c∧∀l,o.v.bk=some l→l.length≤100000)(who:Nat)(hw:who≤100)(hmay:ia o (bf m o.lk)=true){R:Nat→Prop}(M CO:Array Value)(w:World)(hM:o5 R w M m)(hO:xq R w CO o):Calls Tryz.prog 52 #[.agg M,.agg CO,who] w fun e w'=>∃M' CV m',e= .returned (.tuple #[.agg M',.agg CV])∧o5 (Rn R w.heap.size) w' M' m'∧jD (Rn R w.heap.size) w' CV (fW m o)∧kZ m o who m'∧Below w.heap.size w w':=by
 have HLd:=Lib.hid (fun(hp:My S o.a o.b o.c)(W:World)(k:Below w.heap.size w W)=>PO S m hm o.a o.b o.c hp M W (dj hM (Kp.below k) fun _ h=>h));have HP5:=Lib.hid (show o.k=5→My S o.a o.b o.c from fun e=>by obtain⟨_,_,hf⟩:=hf;rcases hf with h|h|h|h|h|h|h|h<;>first|exact h.2|exact h.2.2|(exfalso;omega));obtain⟨CV,rfl,hV⟩:=hO;have HSt:=Lib.hid (fun(h:o.k=6)(W:World)(k:Below w.heap.size w W)=>NG S h1 m hm o.a o.b o.c (hst h).1 o.v (hst h).2 M CV W (dj (qO hM) (Kp.below k) fun _ h=>h) (cM (qW hV) (Kp.below k) fun _ h=>h));have HO:=Lib.hid hM;have HV:=Lib.hid hV;obtain⟨tb,tk,vS,vL,rfl,h2,h3,h4,h5⟩:=hM;obtain⟨a1,m1,c1,rfl⟩:=h2.shape;obtain⟨a2,m2,c2,rfl⟩:=h3.shape;obtain⟨a3,c3,rfl⟩:=h4.shape;obtain⟨a4,c4,rfl⟩:=h5.shape;obtain⟨CL,hs,he⟩:=id h5;have hk8:o.k=1∨o.k=2∨o.k=3∨o.k=4∨o.k=5∨o.k=6∨o.k=7∨o.k=8:=by obtain⟨_,_,hf⟩:=hf;omega
 have hkl:0≤o.lk∧o.lk≤S+1:=⟨hf.1,hf.2.1⟩;obtain⟨k,hk⟩:=Int.eq_ofNat_of_zero_le hkl.1;have hkL:k<m.lk.length:=by have:=hm.lk;omega
 have hCL:CL.length=m.lk.length:=he.1;have hlm:=hm.lk;obtain⟨D,hD,u,rfl,hu⟩:=jJ he hkL (0,[]);have elk:m.lk.getD k (0,[])=bf m k:=rfl;rw[elk]at hD hu;obtain⟨al,cl,eu,-⟩:=id hu.1;rw[List.length_map]at eu;subst eu;have hsr:(bf m k).2.Pairwise (·≤·)∧(bf m k).2.length≤80000:=by rw[←elk,List.getD_eq_getElem?_getD,List.getElem?_eq_getElem hkL];exact hm.sr _ (List.getElem_mem _)
 have HM:=Lib.hid (fun(W:World)(b:Below w.heap.size w W)=>PP (inn:=m.inn) (out:=m.out) (a1:=a1) (m1:=m1) (c1:=c1) (a2:=a2) (m2:=m2) (c2:=c2) (a3:=a3) (c3:=c3) S h0 h1 o hf CV hV.size hV.ones CL (bf m k).1 al _ cl (bf m k).2 rfl k hk hD _ who W (hs.1.below b));have emay:ia o ((bf m k).1,(bf m k).2)=true:=by rw[hk]at hmay;exact hmay
 rw[emay]at HM;have HL:=Lib.hid (fun(W:World)(b:Below w.heap.size w W)=>Mg (inn:=m.inn) (out:=m.out) (a1:=a1) (m1:=m1) (c1:=c1) (a2:=a2) (m2:=m2) (c2:=c2) (a3:=a3) (m3:=m.sh.length) (c3:=c3) k _ CL _ hD W (hs.1.below b));have HK:=Lib.hid (fun(b':Int)(a':Option Addr)(m' c':Nat)(W:World)(b:Below w.heap.size w W)=>Km (inn:=m.inn) (out:=m.out) (a1:=a1) (m1:=m1) (c1:=c1) (a2:=a2) (m2:=m2) (c2:=c2) (a3:=a3) (m3:=m.sh.length) (c3:=c3) k _ CL b' a' m' c' aa aa W (hs.1.below b));have HW:=Lib.hid (fun(hk7:o.k=7)(W:World)=>PX m o hk7 (by obtain⟨_,_,hf⟩:=hf;omega) CV hV.size hV.ones a1 a2 a3 a4 m1 c1 m2 c2 m.sh.length c3 m.lk.length c4 W);simp only[Rc]at HW;have hsh:=hm.sh;rw[←hsh]at HM;have hv13:=And.intro hV.size hV.ones;have hkc:=Lib.hid (fun(Ex:Array Value)=>(by rw[List.length_set];omega:0<(CL.set k Ex).length));clear hV hm hsh hlm hCL;obtain⟨v1,v2,v3,v4,v5,v6,v7,v8,v9,v10,v11,v12,v13,rfl,hv⟩:=km hv13.1 hv13.2;obtain⟨ok,olk,oa,ob,oc,ox,oy,ov,om⟩:=o;simp only at hk hk8;subst hk;rw[wN]at*;simp only at*;go_enter Tryz.func52,Tryz.ntmps52;go_wp2_with fail;refine(HM.out _ bY).mono ?_;rintro e w1⟨rfl,hb⟩;have HB1:=Lib.hid (Bx.mono (g:=w.heap.size) (L:=[(47,6,#[m.inn,m.out,E a1 m1 c1,E a2 m2 c2,E a3 m.sh.length c3,E a4 m.lk.length c4]),(105,21,#[ok,k,oa,ob,oc,ox,oy,v1,v2,v3,v4,v5,v6,v7,v8,v9,v10,v11,v12,v13,om]),(3,1,#[who]),(47,6,#[Z,Z,V,V,V,V]),(103,13,#[Z,F,U,U,Z,F,Z,Z,Z,Z,Z,V,V])]) hb dY ay);have d1:Below w.heap.size w w1:=(show Below w.heap.size w _ from bY).trans (hb.mono aF);have fB:=HB1.out;simp only[Bx,Bo]at fB;clear hb;go_wp2_with fail;refine(HL.out _ bY).mono ?_;rintro e w2⟨rfl,hb⟩;have HB2:=cD hb HB1;have d2:=d1.trans (hb.mono d1.size);clear fB hb;have fB:=HB2.out;simp only[Bx,Bo]at fB;have hrl:w.heap.size+5≤w2.heap.size:=aa;have F8:=Lib.hid (fun(Ex:Array Value)(hE:Ex.size=2)=>And.intro (show w.heap.size+5≤(w2.alloc (.cells Ex 186)).heap.size by simp;omega) (And.intro (Lib.hid (Bo.of (by rw[(MapKept.heap_alloc w2 _).1]) hE:Bo (w2.alloc (.cells Ex 186)) w2.heap.size 186 2 Ex)) (And.intro (Lib.hid (Bx.mono ((Below.refl w2.heap.size w2).alloc (Nat.le_refl _) (.cells Ex 186)) HB2.out aF)) (d2.alloc aa (.cells Ex 186)))));rcases hk8 with rfl|rfl|rfl|rfl|rfl|rfl|rfl|rfl;·
  go_wp2_with fail;obtain⟨hs8,hr,HB8,d8⟩:=F8.out (#[I (bf m k).1,E al (bf m k).2.length cl]) rfl;generalize w2.alloc (.cells (#[I (bf m k).1,E al (bf m k).2.length cl]) 186)=W8 at*;generalize w2.heap.size=r at*;clear fB HB2 d2 F8;have fB:=HB8.out;have fr:=hr.out;simp only[Bx,Bo]at fB fr;refine(HK.out ((who+1:Nat):Int) _ _ _ _ d8).mono ?_;rintro e w3⟨v3,rfl,ho,hb⟩;obtain⟨g3,cap3,rfl,hg3,-⟩:=ho.shape2 (hkc.out _);rw[List.length_set]at ho;have HO3:=Lib.hid ho;have HB3:=cD hb HB8;have d3:=d8.trans (hb.mono d8.size);have fB3:=HB3.out;simp only[Bx,Bo]at fB3;clear fB ho hb;go_wp2;refine bodyPost_ret (v:=.tuple #[.agg (#[m.inn,m.out,E a1 m1 c1,E a2 m2 c2,E a3 m.sh.length c3,G g3 CL.length cap3]),.agg (#[Z,F,U,U,Z,F,Z,Z,Z,Z,Z,V,V])]) (fx (t:=47) (t':=103) Tryz.results52 _ _ _ _ rfl rfl ?_ ?_ dF fu ?_ ?_ cy ea) rfl ?_;·go_simp
  ·go_simp
  ·go_simp
  ·(first|(go_simp;done)|(go_simp;rfl))
  exact oz HO.out he (ai (ai d3 aa _) aa _) (tG (T:=w.heap.size+1+1+1) (T':=w.heap.size+1+1+1+1) HO3.out aa aa) aa (fun d=>hu.old d) (QS rfl rfl) rfl
 ·go_upto_region 8 with(fail);obtain⟨hs8,hr,HB8,d8⟩:=F8.out (#[I (bf m k).1,E al (bf m k).2.length cl]) rfl;generalize w2.alloc (.cells (#[I (bf m k).1,E al (bf m k).2.length cl]) 186)=W8 at*;generalize w2.heap.size=r at*;clear fB HB2 d2 F8;have fB:=HB8.out;have fr:=hr.out;simp only[Bx,Bo]at fB fr;have HB83:=Lib.hid (show Bx W8 w.heap.size [(47,6,#[m.inn,m.out,E a1 m1 c1,E a2 m2 c2,E a3 m.sh.length c3,E a4 m.lk.length c4]),(105,21,#[I 2,k,oa,ob,oc,ox,oy,v1,v2,v3,v4,v5,v6,v7,v8,v9,v10,v11,v12,v13,om]),(3,1,#[who])]from⟨HB8.out.1,HB8.out.2.1,HB8.out.2.2.1,trivial⟩);have HR8:=Lib.hid (show Bx W8 r [(186,2,#[I (bf m k).1,E al (bf m k).2.length cl])]from⟨hr.out,trivial⟩);refine cN 13 af (ax (w.heap.size+1+1+1) W8) [0,1,2,3,4,5,6,7,11] 5 af af (fun _ _ d _ _ h=>bo) (ax.refl _ _).drew ?_;simp only[PL];apply ae;·exact tP
  try simp only[PT]
  apply ae;·exact tP
  try simp only[PT]
  apply ae;·exact tP
  try simp only[PT]
  apply ae;·exact tP
  try simp only[PT]
  apply ae;·exact tP
  try simp only[PT]
  apply ae;·exact tP
  try simp only[PT]
  apply ae;·exact tP
  try simp only[PT]
  apply ae;·exact tP
  try simp only[PT]
  apply ae;·exact tP
  try simp only[PT]
  refine aC ?_;refine bg 8 af af ?_;simp only[aU];go_wp2_with fail;refine(Bn (bf m k).2 who hsr.1 aa _ _ (show Sl W8.drew _ _ _ from(hu.1.below d8).same (Nat.le_refl _) fun _ _ _=>rfl)).mono ?_;rintro e w4⟨l',v',rfl,hsv,hp',hln',hq',hb⟩;have b4:Below W8.heap.size W8 w4:=((Below.refl W8.heap.size W8).drew).trans hb;have sz4:=b4.size;have HSV:=Lib.hid hsv;have HQV:=Lib.hid (show∀q,v'.ownBlock=some q→(Value.slice al (bf m k).2.length cl).ownBlock=some q∨W8.heap.size≤q from hq');obtain⟨av,cv,rfl,-⟩:=id hsv;rw[List.length_map]at HSV HQV⊢;clear hb hsv hq';go_wp2;refine am (JD) ?_;refine dV af [9] 3 rfl af (fun _ _ d _ _ h=>bo) (JD) ?_;simp only[PL];apply ae;·exact tP
  try simp only[PT]
  refine aC ?_;refine bg 10 af af ?_;simp only[aU];go_wp2_with fail;refine(HK.out _ _ _ _ w4 (d8.trans (b4.mono aa))).mono ?_;rintro e w5⟨v5,rfl,ho5,hb⟩;obtain⟨g5,cap5,rfl,hg5,-⟩:=ho5.shape2 (hkc.out _);rw[List.length_set]at ho5;have HO5:=Lib.hid ho5;have b5:Below W8.heap.size W8 w5:=b4.trans (hb.mono sz4);have HS5:=Lib.hid (HSV.out.below hb);have fB5:=Bx.mono b5 HB8.out aF;simp only[Bx,Bo]at fB5;clear hb ho5;go_wp2;refine am (JD) ?_;refine bg 12 af af ?_;simp only[aU];go_wp2_with fail;refine am (JD) ?_;refine dp 13 rfl af af ?_;simp only[aU];go_wp2_with fail;refine am trivial ?_;refine dX af ?_;go_wp2;refine bodyPost_ret (v:=.tuple #[.agg (#[m.inn,m.out,E a1 m1 c1,E a2 m2 c2,E a3 m.sh.length c3,G g5 CL.length cap5]),.agg (#[Z,F,U,U,Z,F,Z,Z,Z,Z,Z,V,V])]) (fx (t:=47) (t':=103) Tryz.results52 _ _ _ _ rfl rfl ?_ ?_ dF fu ?_ ?_ cy ea) rfl ?_;·go_simp
  ·go_simp
  ·go_simp
  ·(first|(go_simp;done)|(go_simp;rfl))
  exact oz HO.out he (ai (ai (d8.trans (b5.mono aa)) aa _) aa _) (tG (T:=w.heap.size+1+1+1) (T':=w.heap.size+1+1+1+1) HO5.out aa aa) aa (fun d=>IM hu HS5.out HQV.out aa aa aa) (QT rfl ⟨l',hp',hln',rfl⟩) rfl
 ·by_cases hb:(bf m k).1=((who+1:Nat):Int);·have hb2:((bf m k).1=(who:Int)+1):=aa;go_wp2_with fail;obtain⟨hs8,hr,HB8,d8⟩:=F8.out (#[Z,E al (bf m k).2.length cl]) rfl;generalize w2.alloc (.cells (#[Z,E al (bf m k).2.length cl]) 186)=W8 at*;generalize w2.heap.size=r at*;clear fB HB2 d2 F8;have fB:=HB8.out;have fr:=hr.out;simp only[Bx,Bo]at fB fr;refine(HK.out (0:Int) _ _ _ _ d8).mono ?_;exact IX
  ·have hb2:¬((bf m k).1=(who:Int)+1):=aa;go_wp2_with fail;obtain⟨hs8,hr,HB8,d8⟩:=F8.out (#[I (bf m k).1,E al (bf m k).2.length cl]) rfl;generalize w2.alloc (.cells (#[I (bf m k).1,E al (bf m k).2.length cl]) 186)=W8 at*;generalize w2.heap.size=r at*;clear fB HB2 d2 F8;have fB:=HB8.out;have fr:=hr.out;simp only[Bx,Bo]at fB fr;refine(HK.out (bf m k).1 _ _ _ _ d8).mono ?_;exact IX
 ·have hmf:=fun(fn:Fn)(first cap:Array Value)(w:World)=>(rfl:(Instr.makeFunc fn first cap).run Tryz.prog w= .ok (.func fn first cap) w);go_wp2_with fail;obtain⟨hs8,hr,HB8,d8⟩:=F8.out (#[I (bf m k).1,E al (bf m k).2.length cl]) rfl;generalize w2.alloc (.cells (#[I (bf m k).1,E al (bf m k).2.length cl]) 186)=W8 at*;generalize w2.heap.size=r at*;clear fB HB2 d2 F8;have fB:=HB8.out;have fr:=hr.out;simp only[Bx,Bo]at fB fr;have hrl8:r<W8.heap.size:=fr.2.2.2.1;refine(B9 _ _ W8 (hu.1.below d8) aF).mono ?_;rintro e w4⟨v4,rfl,ho4,hb⟩;have HO4:=Lib.hid ho4;have b4:Below W8.heap.size W8 w4:=hb;have HB4:=cD b4 HB8;have fB4:=HB4.out;simp only[Bx,Bo]at fB4;clear fB fr hb ho4;have hcw:w4.cell? ⟨w.heap.size+1+1,0,none⟩=some (.int .i64 who):=bG;have hcwh:=Lib.hid hcw;go_wp2_with fail;refine(AN (bf m k).2 who (w.heap.size+1+1) W8.heap.size hsr.1 aa v4 w4 HO4.out aa b4.size hcwh.out).mono ?_;rintro e w5⟨l',v',rfl,hsv,hp',hln',hq',hb⟩;have b5:Below W8.heap.size W8 w5:=b4.trans hb;have HSV:=Lib.hid hsv;have HQV:=Lib.hid hq';obtain⟨av,cv,rfl,-⟩:=id hsv;rw[List.length_map]at HSV HQV⊢;have HB5:=Lib.hid (Bx.mono (b5.mono (Nat.le_of_lt hrl8)) HB8.out aF);have HR5:=Lib.hid (Bx.mono (g:=r) (L:=[(186,2,#[I (bf m k).1,E al (bf m k).2.length cl])]) b5 ⟨hr.out,trivial⟩ aF);have HB6:=Lib.hid (Bx.mono (ai (Below.refl r w5) (Nat.le_refl r) (#[I (bf m k).1,E av l'.length cv])) HB5.out aF);have HR6:=Lib.hid (HR5.out.set (i:=0) (C:=#[I (bf m k).1,E av l'.length cv]) (fun _ _ _ e=>iy));have d6:Below w.heap.size w (w5.setRow r #[I (bf m k).1,E av l'.length cv]):=ai (d8.trans (b5.mono aa)) aa _;have hs6:w.heap.size+5≤(w5.setRow r #[I (bf m k).1,E av l'.length cv]).heap.size:=by rw[cX];have:=b5.size;omega
  have HS6:=Lib.hid (show Sr (W8.heap.size≤·) (w5.setRow r #[I (bf m k).1,E av l'.length cv]) (E av l'.length cv) 1 (l'.map qE)from⟨HSV.out.upto (aP (ax.refl r w5) _) (fun e=>by have:=HQV.out _ e;omega),HQV.out⟩);have fB5:=HB5.out;have fR5:=HR5.out;simp only[Bx,Bo]at fB5 fR5;have fB6:=HB6.out;have fR6:=HR6.out;simp only[Bx,Bo,Nat.add_zero,List.getElem?_cons_zero,List.set_cons_zero]at fB6 fR6;clear hb hsv hq' fB4 hcw;go_wp2_with fail;generalize(w5.setRow r #[I (bf m k).1,E av l'.length cv])=W6 at*;refine(HK.out _ _ _ _ _ d6).mono ?_;rintro e w3⟨v3,rfl,ho,hb⟩;obtain⟨g3,cap3,rfl,hg3,-⟩:=ho.shape2 (hkc.out _);rw[List.length_set]at ho;have HO3:=Lib.hid ho;have HB3:=cD hb HB6;have d3:=dE d6 hb;have HS3:=Lib.hid (HS6.out.keep (R':=(W8.heap.size≤·)) (Kp.below hb) fun _ h=>h);have fB3:=HB3.out;simp only[Bx,Bo]at fB3;clear fB5 fR5 fB6 fR6 ho hb;go_wp2;refine bodyPost_ret (v:=.tuple #[.agg (#[m.inn,m.out,E a1 m1 c1,E a2 m2 c2,E a3 m.sh.length c3,G g3 CL.length cap3]),.agg (#[Z,F,U,U,Z,F,Z,Z,Z,Z,Z,V,V])]) (fx (t:=47) (t':=103) Tryz.results52 _ _ _ _ rfl rfl ?_ ?_ dF fu ?_ ?_ cy ea) rfl ?_;·go_simp
  ·go_simp
  ·go_simp
  ·(first|(go_simp;done)|(go_simp;rfl))
  exact oz HO.out he (ai (ai d3 aa _) aa _) (tG (T:=w.heap.size+1+1+1) (T':=w.heap.size+1+1+1+1) HO3.out aa aa) aa (fun d=>HS3.out.keep ((Kp.setRow aa).trans (Kp.setRow aa)) fun q hq=>.inr aa) (QV rfl ⟨l',hp',hln',rfl⟩) rfl
 ·go_upto_region 17 with(fail);obtain⟨hs8,hr,HB8,d8⟩:=F8.out (#[I (bf m k).1,E al (bf m k).2.length cl]) rfl;generalize w2.alloc (.cells (#[I (bf m k).1,E al (bf m k).2.length cl]) 186)=W8 at*;generalize w2.heap.size=r at*;clear fB HB2 d2 F8;have fB:=HB8.out;have fr:=hr.out;simp only[Bx,Bo]at fB fr;have HB83:=Lib.hid (show Bx W8 w.heap.size [(47,6,#[m.inn,m.out,E a1 m1 c1,E a2 m2 c2,E a3 m.sh.length c3,E a4 m.lk.length c4]),(105,21,#[I 5,k,oa,ob,oc,ox,oy,v1,v2,v3,v4,v5,v6,v7,v8,v9,v10,v11,v12,v13,om]),(3,1,#[who])]from⟨HB8.out.1,HB8.out.2.1,HB8.out.2.2.1,trivial⟩);refine cN 6 af (fun W=>Below (w.heap.size+1+1+1) W8 W) [0,1,2,3] 3 af af (fun _ _ d _ _ h=>bo) (Below.refl _ _).drew ?_;simp only[PL];apply ae;·exact JE
  try simp only[PT]
  apply ae;·exact JE
  try simp only[PT]
  apply ae;·exact JE
  try simp only[PT]
  apply ae;·exact JE
  try simp only[PT]
  refine aC ?_;refine bg 4 af af ?_;simp only[aU];go_wp2_with fail;refine(HLd.out (HP5.out (by trivial)) _ d8.drew).mono ?_;rintro e w4⟨CV4,rfl,hV4,hb⟩;have b4:Below W8.heap.size W8 w4:=((Below.refl W8.heap.size W8).drew).trans hb;have HB4:=cD b4 HB8;have HV4:=Lib.hid hV4;have hVn:=hV4.size;have hVo:=hV4.ones;have fB4:=HB4.out;simp only[Bx,Bo]at fB4;clear hb hV4;go_wp2;refine am (Pw) ?_;refine bg 5 af af ?_;simp only[aU];go_wp2_with fail;refine am (Pw) ?_;refine dp 6 rfl af af ?_;simp only[aU];go_wp2_with fail;refine am trivial ?_;refine dX af ?_;go_wp2;refine bodyPost_ret (v:=.tuple #[.agg (#[m.inn,m.out,E a1 m1 c1,E a2 m2 c2,E a3 m.sh.length c3,E a4 m.lk.length c4]),.agg CV4]) (fx (t:=47) (t':=103) Tryz.results52 _ _ _ _ rfl rfl ?_ ?_ dF fu ?_ ?_ cy ea) rfl ?_;·go_simp
  ·go_simp
  ·go_simp
  ·(first|(go_simp;done)|(go_simp;rfl))
  exact yN HO.out (ai (ai (d8.trans (b4.mono aa)) aa _) aa _) (PH (.inl rfl) rfl) (cM HV4.out ((Kp.setRow (by show¬(W8.heap.size≤_);omega)).trans (Kp.setRow (by show¬(W8.heap.size≤_);omega))) fun q hq=>.inr (by have hq':W8.heap.size≤q:=hq;omega))
 ·go_wp2_with fail;obtain⟨hs8,hr,HB8,d8⟩:=F8.out (#[I (bf m k).1,E al (bf m k).2.length cl]) rfl;generalize w2.alloc (.cells (#[I (bf m k).1,E al (bf m k).2.length cl]) 186)=W8 at*;generalize w2.heap.size=r at*;clear fB HB2 d2 F8;have fB:=HB8.out;have fr:=hr.out;simp only[Bx,Bo]at fB fr;refine(HSt.out (by trivial) _ d8).mono ?_;rintro e w3⟨M',rfl,hM',hb⟩;have hMn:=hM'.size;have hMo:=hM'.ones;have HB3:=cD hb HB8;have d3:=d8.trans (hb.mono d8.size);have fB3:=HB3.out;simp only[Bx,Bo]at fB3;clear fB hb;go_wp2;refine bodyPost_ret (v:=.tuple #[.agg M',.agg (#[Z,F,U,U,Z,F,Z,Z,Z,Z,Z,V,V])]) (fx (t:=47) (t':=103) Tryz.results52 _ _ _ _ rfl rfl ?_ ?_ dF fu ?_ ?_ cy ea) rfl ?_;·go_simp
  ·go_simp
  ·go_simp
  ·(first|(go_simp;done)|(go_simp;rfl))
  exact⟨_,_,iY m oa ob oc ov,rfl,dj hM' ((Kp.setRow aa).trans (Kp.setRow aa)) (fun q hq=>FW),⟨_,_,rfl,rfl,rfl,rfl,rfl⟩,QW rfl rfl,(ai (ai d3 aa _) aa _)⟩
 ·go_wp2_with fail;obtain⟨hs8,hr,HB8,d8⟩:=F8.out (#[I (bf m k).1,E al (bf m k).2.length cl]) rfl;generalize w2.alloc (.cells (#[I (bf m k).1,E al (bf m k).2.length cl]) 186)=W8 at*;generalize w2.heap.size=r at*;clear fB HB2 d2 F8;have fB:=HB8.out;have fr:=hr.out;simp only[Bx,Bo]at fB fr;refine(HW.out (by trivial) _).mono ?_;rintro e w3⟨rfl,hb⟩;have HB3:=cD hb HB8;have d3:=d8.trans (hb.mono d8.size);have fB3:=HB3.out;simp only[Bx,Bo]at fB3;clear fB hb;go_wp2;refine bodyPost_ret (v:=.tuple #[.agg (#[I (dD m ⟨7,k,oa,ob,oc,ox,oy,ov,om⟩).1.inn,I (dD m ⟨7,k,oa,ob,oc,ox,oy,ov,om⟩).1.out,E a1 m1 c1,E a2 m2 c2,E a3 m.sh.length c3,E a4 m.lk.length c4]),.agg (#[I (dD m ⟨7,k,oa,ob,oc,ox,oy,ov,om⟩).2,F,U,U,Z,F,Z,Z,Z,Z,Z,V,V])]) (fx (t:=47) (t':=103) Tryz.results52 _ _ _ _ rfl rfl ?_ ?_ dF fu ?_ ?_ cy ea) rfl ?_;·go_simp
  ·go_simp
  ·go_simp
  ·(first|(go_simp;done)|(go_simp;rfl))
  exact IR HO.out (ai (ai d3 aa _) aa _) (QX rfl rfl) rfl
 ·go_upto_region 22 with(fail);obtain⟨hs8,hr,HB8,d8⟩:=F8.out (#[I (bf m k).1,E al (bf m k).2.length cl]) rfl;generalize w2.alloc (.cells (#[I (bf m k).1,E al (bf m k).2.length cl]) 186)=W8 at*;generalize w2.heap.size=r at*;clear fB HB2 d2 F8;have fB:=HB8.out;have fr:=hr.out;simp only[Bx,Bo]at fB fr;go_wp2;refine bodyPost_ret (v:=.tuple #[.agg (#[m.inn,m.out,E a1 m1 c1,E a2 m2 c2,E a3 m.sh.length c3,E a4 m.lk.length c4]),.agg (#[Z,F,U,U,Z,F,Z,Z,Z,Z,Z,V,V])]) (fx (t:=47) (t':=103) Tryz.results52 _ _ _ _ rfl rfl ?_ ?_ dF fu ?_ ?_ cy ea) rfl ?_;·go_simp
  ·go_simp
  ·go_simp
  ·(first|(go_simp;done)|(go_simp;rfl))
  exact yN HO.out (ai (ai d8 aa _) aa _) (PH (.inr rfl) rfl) ⟨_,_,rfl,rfl,rfl,rfl,rfl⟩
section
def ko(m:Mm)(o:Oq):Mm:=if o.k=6 then iY m o.a o.b o.c o.v else if o.k=7 then(dD m o).1 else m
def ej:Mm→List Oq→List Vl
 |_,[]=>[]
 |m,o::r=>fW m o::ej (ko m o) r
def cx(m:Mm)(l:List Oq):Mm:=l.foldl ko m
theorem AU(m:Mm)(a b:List Oq):ej m (a++b)=ej m a++ej (cx m a) b:=by
 induction a generalizing m with
  |nil=>rfl
  |cons o a ih=>simp only[List.cons_append,ej,ih,cx,List.foldl_cons]
theorem lY(m:Mm)(l:List Oq):(ej m l).length=l.length:=by
 induction l generalizing m with
  |nil=>rfl
  |cons o a ih=>simp[ej,ih]
theorem yl(m:Mm)(l:List Oq)(k:Nat):(ej m l).take k=ej m (l.take k):=by
 induction l generalizing m k with
  |nil=>simp[ej]
  |cons o a ih=>cases k<;>simp[ej,ih]
theorem D9(m:Mm)(l:List Oq){k:Nat}{o:Oq}(h:l[k]? =some o):cx m (l.take (k+1))=ko (cx m (l.take k)) o:=by obtain⟨hk,rfl⟩:=List.getElem?_eq_some_iff.1 h;unfold cx;rw[List.take_succ_eq_append_getElem hk,List.foldl_append];rfl
theorem jK(m:Mm)(l:List Oq){k:Nat}{o:Oq}(h:l[k]? =some o):(ej m l).take (k+1)=(ej m l).take k++[fW (cx m (l.take k)) o]:=by obtain⟨hk,rfl⟩:=List.getElem?_eq_some_iff.1 h;rw[yl,yl,List.take_succ_eq_append_getElem hk,AU];rfl
def zV:Vl:=⟨0,zP,none,none⟩
def cW(k j:Int)(mk:Bool):Oq:=⟨k,j,0,0,0,0,0,zV,mk⟩
def dI(a b c:Int):Oq:=⟨5,0,a,b,c,0,0,zV,false⟩
def yJ(n:Int):Oq:=⟨7,0,2,0,0,n,n+1,zV,true⟩
def Fh(bk:Option (List (Array Value))):Oq:=⟨6,0,4,0,0,0,0,⟨0,zP,none,bk⟩,false⟩
def Bh:Oq:=⟨8,0,0,0,0,0,0,zV,true⟩
structure Ed where
 six:Bool
 hi:Int
 lo:Int
 port:Int deriving DecidableEq
inductive Dr
 |full
 |non
 |ok(e:Ed)
def Dr.mk:Dr→Bool
 | .ok _=>false
 |_=>true
def pu(S:Nat):List Oq:=cW 2 0 false::cW 1 1 false::(List.range S).map fun j=>cW 1 ((2+j:Nat):Int) false
def fp(m:Mm)(j:Nat):List Oq:=dI 5 j 0::(List.range (m.sh.getD j (0,[])).2.length).map fun i:Nat=>dI 6 j i
def jT(S:Nat)(m:Mm):List Oq:=dI 3 0 0::dI 4 0 0::((List.range S).flatMap (fp m)++[dI 2 0 0])
def cO(m:Mm)(bk:Ed→Option (List (Array Value))):Dr→List Oq
 | .ok e=>[dI 2 0 0,yJ m.out,Fh (bk e)]
 |_=>[]
def n9(S:Nat)(mk:Bool):List Oq:=((List.range S).map fun i=>cW 3 ((2+(S-1-i):Nat):Int) (mk&&i==0))++[cW 3 1 false,cW 4 0 false]
def ee(S:Nat)(m:Mm)(bk:Ed→Option (List (Array Value)))(r:Dr):List Oq:=pu S++(jT S m++cO m bk r)++n9 S r.mk
section
variable{S:Nat}{m:Mm}{bk:Ed→Option (List (Array Value))}{r:Dr}
def eq(S:Nat)(m:Mm)(bk:Ed→Option (List (Array Value)))(r:Dr):Nat:=(jT S m++cO m bk r).length
theorem iU(S:Nat):(pu S).length=S+2:=by simp[pu]
theorem Eg(S:Nat)(mk:Bool):(n9 S mk).length=S+2:=by simp[n9]
theorem uK:(ee S m bk r).length=2*S+4+eq S m bk r:=by unfold ee eq;rw[List.length_append,List.length_append,iU,Eg];omega
theorem kn:(ee S m bk r)[0]? =some (cW 2 0 false):=by simp[ee,pu]
theorem iA{k:Nat}(h1:1≤k)(h2:k≤S+1):(ee S m bk r)[k]? =some (cW 1 k false):=by
 unfold ee;rw[List.append_assoc,List.getElem?_append_left (by rw[iU];omega)];obtain⟨k,rfl⟩:∃q,k=q+1:=⟨k-1,aa⟩;cases k with
  |zero=>rfl
  |succ k=>unfold pu;rw[List.getElem?_cons_succ,List.getElem?_cons_succ,List.getElem?_map,List.getElem?_range aa];simp only[Option.map_some];rw[show 2+k=k+1+1 by omega]
theorem rB{k:Nat}(h1:S+2≤k)(h2:k<S+2+eq S m bk r):∃o,(ee S m bk r)[k]? =some o∧o∈jT S m++cO m bk r:=by
 unfold ee;rw[List.getElem?_append_left (by rw[List.length_append,iU];exact h2),List.getElem?_append_right (by rw[iU];omega),iU];have hl:k-(S+2)<(jT S m++cO m bk r).length:=by unfold eq at h2;omega
 exact⟨_,List.getElem?_eq_getElem hl,List.getElem_mem _⟩
theorem rC{k:Nat}(h1:S+2+eq S m bk r≤k)(h2:k≤2*S+2+eq S m bk r):∃mk,(ee S m bk r)[k]? =some (cW 3 ((2*S+3+eq S m bk r-k:Nat):Int) mk):=by
 have hp:(pu S++(jT S m++cO m bk r)).length=S+2+eq S m bk r:=F1;unfold ee;rw[List.getElem?_append_right aa,hp];unfold n9;by_cases h:k-(S+2+eq S m bk r)<S;·rw[List.getElem?_append_left rn,List.getElem?_map,List.getElem?_range h];refine⟨_,by simp only[Option.map_some];rw[show 2+(S-1-(k-(S+2+eq S m bk r)))=2*S+3+eq S m bk r-k by omega]⟩
 ·have e:k=2*S+2+eq S m bk r:=aa;rw[List.getElem?_append_right aF,List.length_map,List.length_range];refine⟨false,?_⟩;rw[show k-(S+2+eq S m bk r)-S=0 by omega,show 2*S+3+eq S m bk r-k=1 by omega];rfl
theorem na:(ee S m bk r)[2*S+3+eq S m bk r]? =some (cW 4 0 false):=by have hp:(pu S++(jT S m++cO m bk r)).length=S+2+eq S m bk r:=F1;unfold ee;rw[List.getElem?_append_right aa,hp];unfold n9;rw[List.getElem?_append_right aF,List.length_map,List.length_range,show 2*S+3+eq S m bk r-(S+2+eq S m bk r)-S=1 by omega];rfl
def jH(m:Mm)(bk:Ed→Option (List (Array Value))):Dr→Mm
 | .ok e=>{m with out:=m.out+1,bk:=bk e}
 |_=>m
theorem fF(m:Mm)(l:List Oq)(h:∀o∈l,o.k≠6∧o.k≠7):cx m l=m:=by
 induction l with
  |nil=>rfl
  |cons o l ih=>
   have e:ko m o=m:=by unfold ko;rw[if_neg (h o ay).1,if_neg (h o ay).2]
   show cx (ko m o) l=m;rw[e];exact ih fun o ho=>h o (by simp[ho])
theorem bP(m:Mm)(a b:List Oq):cx m (a++b)=cx (cx m a) b:=List.foldl_append
theorem iM:∀o∈jT S m,o.k=5:=by intro o ho;simp only[jT,List.mem_cons,List.mem_append,List.mem_flatMap,fp,List.mem_map,List.not_mem_nil,or_false]at ho;rcases ho with rfl|rfl|⟨j,-,rfl|⟨i,-,rfl⟩⟩|rfl<;>rfl
theorem pv:∀o∈pu S,o.k=1∨o.k=2:=by
 intro o ho;simp only[pu,List.mem_cons,List.mem_map]at ho;rcases ho with rfl|rfl|⟨j,-,rfl⟩;·exact .inr rfl
 ·exact .inl rfl
 ·exact .inl rfl
theorem ni{mk:Bool}:∀o∈n9 S mk,o.k=3∨o.k=4:=by
 intro o ho;simp only[n9,List.mem_cons,List.mem_append,List.mem_map,List.not_mem_nil,or_false]at ho;rcases ho with⟨j,-,rfl⟩|rfl|rfl;·exact .inl rfl
 ·exact .inl rfl
 ·exact .inr rfl
theorem pf:cx m (cO m bk r)=jH m bk r:=by
 cases r<;>try rfl
 simp[cx,cO,ko,dI,yJ,Fh,dD,iY,jH]
theorem yk:cx m (pu S)=m:=fF _ _ fun o ho=>by rcases pv o ho with h|h<;>omega
theorem rJ:cx m (jT S m)=m:=fF _ _ fun o ho=>by have:=iM o ho;omega
theorem uM:cx m (ee S m bk r)=jH m bk r:=by unfold ee;rw[bP,bP,bP,yk,rJ,pf,fF _ _ fun o ho=>by rcases ni o ho with h|h<;>omega]
theorem D8{k:Nat}(h:S+2+eq S m bk r≤k):cx m ((ee S m bk r).take k)=jH m bk r:=by have hp:(pu S++(jT S m++cO m bk r)).length=S+2+eq S m bk r:=F1;unfold ee;rw[List.take_append,hp,List.take_of_length_le aa,bP,bP,bP,yk,rJ,pf,fF];intro o ho;rcases ni o (List.mem_of_mem_take ho)with h|h<;>omega
theorem AS{k:Nat}(h:k≤S+2):cx m ((ee S m bk r).take k)=m:=by unfold ee;rw[List.append_assoc,List.take_append_of_le_length (by rw[iU];exact h),fF];intro o ho;rcases pv o (List.mem_of_mem_take ho)with h|h<;>omega
end
end
section
attribute[local go_sem↓]bI bu bZ bO dQ dA aZ aW
attribute[local go_sem]bT cd cz cK ez fP
end
end Go.Proofs.YtnncjbkepakgpaaGreat
