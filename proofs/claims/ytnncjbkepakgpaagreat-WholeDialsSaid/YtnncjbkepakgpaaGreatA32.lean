/- THE WORLD, OPENED; A TASK's NEXT OPERATION, IF IT MAY BE DONE. A STATE THAT MAY BE, by the model. THE PART OF AN ADDRESS. -/
import Derived.Test.YtnncjbkepakgpaaGreatA31
namespace Go.Proofs.YtnncjbkepakgpaaGreat
open Go.RowKit Qv
set_option linter.unusedVariables false
set_option linter.unusedSimpArgs false
set_option maxRecDepth 100000
set_option maxHeartbeats 4000000
section
attribute[local go_sem high]bQ
attribute[local simp high]bQ
theorem yY{p:Prop}(h:PQ p:=by have sd3:(WB.heap.size+1)≤w3.heap.size:=Nat.le_trans ay hb.size;have hb3:Below WB.heap.size WB w3:=aj hb (fk) (DV);have HR3:=Bx.mono (g:=WB.heap.size) (L:=[(105,21,#[Z,Z,Z,Z,Z,Z,Z,Z,F,U,U,Z,F,Z,Z,Z,Z,Z,V,V,F])]) hb dY ay;exact pq (And.intro sd3 (And.intro hb3 HR3))):p:=h
theorem yZ{p:Prop}(h:PQ p:=by have d4:Below w.heap.size w W4:=d0.trans (kk4.mono aa);have HB4:=cD kk4 HB;have HB41:=Lib.hid (show Bx W4 w.heap.size [(51,24,#[k1,k2,k3,k4,k5,k6,k7,k8,k9,k10,k11,k12,k13,k14,k15,k16,x.m.inn,x.m.out,E a1 m1 c1,E a2 m2 c2,E a3 x.m.sh.length c3,E a4 x.m.lk.length c4,E (some ⟨g,oo,none⟩) x.ts.length cT,E aG x.lg.length cG])]from⟨HB4.out.1,trivial⟩);exact pq (And.intro d4 (And.intro HB4 HB41))):p:=h
theorem y8{p:Prop}(h:PQ p:=by have HE:=Lib.hid (fun(W:World)(k:Below w.heap.size w W)=>And.intro ((bS (W:=w) (W':=W) (p:=⟨g,oo+who*5,none⟩) (n:=5) (k.block g hg)).1.trans e1) ((bS (W:=w) (W':=W) (p:=⟨g,oo+who*5,none⟩) (n:=5) (k.block g hg)).2.trans (e2.trans hCc)));exact pq (HE)):p:=h
theorem B5{C:Array Value}(hn:C.size=16)(h1:bB C=true):∃k1 k2 k3 k4 k5 k6 k7 k8 k9 k10 k11 k12 k13 k14 k15 k16:Value,C=#[k1,k2,k3,k4,k5,k6,k7,k8,k9,k10,k11,k12,k13,k14,k15,k16]∧k1.oneCell'=true∧k2.oneCell'=true∧k3.oneCell'=true∧k4.oneCell'=true∧k5.oneCell'=true∧k6.oneCell'=true∧k7.oneCell'=true∧k8.oneCell'=true∧k9.oneCell'=true∧k10.oneCell'=true∧k11.oneCell'=true∧k12.oneCell'=true∧k13.oneCell'=true∧k14.oneCell'=true∧k15.oneCell'=true∧k16.oneCell'=true:=by
 obtain⟨l⟩:=C;match l,hn with
  |[k1,k2,k3,k4,k5,k6,k7,k8,k9,k10,k11,k12,k13,k14,k15,k16],_=>simp only[bW,bi,bF,Bool.and_eq_true,and_true]at h1;exact⟨k1,k2,k3,k4,k5,k6,k7,k8,k9,k10,k11,k12,k13,k14,k15,k16,rfl,h1⟩
theorem rr{C:Array Value}(hn:C.size=5)(h1:bB C=true):∃v1 v2 v3 v4 v5:Value,C=#[v1,v2,v3,v4,v5]∧v1.oneCell'=true∧v2.oneCell'=true∧v3.oneCell'=true∧v4.oneCell'=true∧v5.oneCell'=true:=by
 obtain⟨l⟩:=C;match l,hn with
  |[v1,v2,v3,v4,v5],_=>simp only[bW,bi,bF,Bool.and_eq_true,and_true]at h1;exact⟨v1,v2,v3,v4,v5,rfl,h1⟩
theorem nH.open{R:Nat→Prop}{W:World}{X:Array Value}{x:Wo}(h:nH R W X x):∃k1 k2 k3 k4 k5 k6 k7 k8 k9 k10 k11 k12 k13 k14 k15 k16 a1 m1 c1 a2 m2 c2 a3 c3 a4 c4 aT cT aG cG,x.K=#[k1,k2,k3,k4,k5,k6,k7,k8,k9,k10,k11,k12,k13,k14,k15,k16]∧(k1.oneCell'=true∧k2.oneCell'=true∧k3.oneCell'=true∧k4.oneCell'=true∧k5.oneCell'=true∧k6.oneCell'=true∧k7.oneCell'=true∧k8.oneCell'=true∧k9.oneCell'=true∧k10.oneCell'=true∧k11.oneCell'=true∧k12.oneCell'=true∧k13.oneCell'=true∧k14.oneCell'=true∧k15.oneCell'=true∧k16.oneCell'=true)∧X=(#[k1,k2,k3,k4,k5,k6,k7,k8,k9,k10,k11,k12,k13,k14,k15,k16,x.m.inn,x.m.out,E a1 m1 c1,E a2 m2 c2,E a3 x.m.sh.length c3,E a4 x.m.lk.length c4,E aT x.ts.length cT,E aG x.lg.length cG]:AV)∧o5 R W #[x.m.inn,x.m.out,E a1 m1 c1,E a2 m2 c2,E a3 x.m.sh.length c3,E a4 x.m.lk.length c4] x.m∧Se mY R W (E aT x.ts.length cT) 5 x.ts∧Se I9 R W (E aG x.lg.length cG) 37 x.lg:=by obtain⟨CM,vT,vG,rfl,hK,hK1,hM,hT,hG⟩:=h;obtain⟨k1,k2,k3,k4,k5,k6,k7,k8,k9,k10,k11,k12,k13,k14,k15,k16,hk,ho⟩:=B5 hK hK1;have hM':=hM;obtain⟨s1,s2,s3,s4,rfl,h1,h2,h3,h4⟩:=hM;obtain⟨a1,m1,c1,rfl⟩:=h1.shape;obtain⟨a2,m2,c2,rfl⟩:=h2.shape;obtain⟨a3,c3,rfl⟩:=h3.shape;obtain⟨a4,c4,rfl⟩:=h4.shape;obtain⟨aT,cT,rfl⟩:=hT.shape;obtain⟨aG,cG,rfl⟩:=hG.shape;exact⟨k1,k2,k3,k4,k5,k6,k7,k8,k9,k10,k11,k12,k13,k14,k15,k16,a1,m1,c1,a2,m2,c2,a3,c3,a4,c4,aT,cT,aG,cG,hk,ho,by rw[hk];rfl,hM',hT,hG⟩
theorem Hw{R:Nat→Prop}{W:World}{C:Array Value}{o:Oq}(h:xq R W C o):∃q0 q1 q2 q3 q4 q5 q6 q7 q8 q9 q10 q11 q12 q13 q14 q15 q16 q17 q18 q19 q20:Value,C=#[q0,q1,q2,q3,q4,q5,q6,q7,q8,q9,q10,q11,q12,q13,q14,q15,q16,q17,q18,q19,q20]∧(q0.oneCell'=true∧q1.oneCell'=true∧q2.oneCell'=true∧q3.oneCell'=true∧q4.oneCell'=true∧q5.oneCell'=true∧q6.oneCell'=true∧q7.oneCell'=true∧q8.oneCell'=true∧q9.oneCell'=true∧q10.oneCell'=true∧q11.oneCell'=true∧q12.oneCell'=true∧q13.oneCell'=true∧q14.oneCell'=true∧q15.oneCell'=true∧q16.oneCell'=true∧q17.oneCell'=true∧q18.oneCell'=true∧q19.oneCell'=true∧q20.oneCell'=true):=by
 have h1:=h.size;have h2:=h.ones;obtain⟨l⟩:=C;match l,h1 with
  |[q0,q1,q2,q3,q4,q5,q6,q7,q8,q9,q10,q11,q12,q13,q14,q15,q16,q17,q18,q19,q20],_=>simp only[bW,bi,bF,Bool.and_eq_true,and_true]at h2;exact⟨q0,q1,q2,q3,q4,q5,q6,q7,q8,q9,q10,q11,q12,q13,q14,q15,q16,q17,q18,q19,q20,rfl,h2⟩
theorem Mw(S:Nat)(h0:1≤S)(h1:S≤8)(x:Wo)(hm:Fb S x.m)(who:Nat)(t:Tk)(ht:x.ts[who]? =some t)(hl:t.nth<t.calls.length)(o:Oq)(HT:eJ x.K t (.op o))(hf:E9 S o){R:Nat→Prop}(X:Array Value)(w:World)(h:nH R w X x):Calls Tryz.prog 51 #[.agg X,who] w fun e w'=>∃CO,e= .returned (.tuple #[.agg CO,.bool (ia o (x.m.lk.getD o.lk.toNat (0,[])))])∧xq (Rn R w.heap.size) w' CO o∧Below w.heap.size w w':=by
 obtain⟨k1,k2,k3,k4,k5,k6,k7,k8,k9,k10,k11,k12,k13,k14,k15,k16,a1,m1,c1,a2,m2,c2,a3,c3,a4,c4,aT,cT,aG,cG,hk,hko,rfl,hM,⟨CT,hT,hT'⟩,hG⟩:=(mM h).open;obtain⟨C,hC,hCt⟩:=hT'.at ht;obtain⟨g,oo,cL,e0,hg,e1,e2,e3,e4⟩:=eC hT.1 hC;simp only[Value.slice.injEq]at e0;obtain⟨rfl,-,rfl⟩:=e0;have hM0:=hM;obtain⟨s1,s2,s3,s4,es,g1',g2',g3',⟨CL,hSL,hLe⟩⟩:=hM;simp only[Array.mk.injEq,List.cons.injEq,true_and,and_true]at es;obtain⟨rfl,rfl,rfl,rfl⟩:=es;have HSL:=Lib.hid hSL.1;obtain⟨k,hk'⟩:=Int.eq_ofNat_of_zero_le hf.1;have hkL:k<x.m.lk.length:=by have:=hm.lk;have:=hf.2.1;omega
 obtain⟨D,hD,u,rfl,hu⟩:=jJ hLe hkL (0,[]);obtain⟨al,cl,eu,-⟩:=id hu.1;rw[List.length_map]at eu;subst eu;rw[hk',show((k:Int)).toNat=k from rfl];generalize x.m.lk.getD k (0,[])=lv at*;clear g1' g2' g3' hLe hSL hu hM0;have hwl:who<x.ts.length:=(List.getElem?_eq_some_iff.1 ht).1;have HN:=Lib.hid (fun(W:World)(k:Below w.heap.size w W)=>PR x.K (by rw[hk];rfl) (MT) t hl o HT C W (dB hCt (Kp.below k) fun _ h=>h));rw[hk]at HN;have n1:¬((who:Int)<0):=aa;have n2:¬((x.ts.length:Int)≤(who:Int)):=aa;have n3:(who:Int)<(x.ts.length:Int):=aa;have n4:0≤(who:Int):=aa;have g1:g<w.heap.size+1:=aa;have g2:g<w.heap.size+1+1:=aa;obtain⟨b1,b2,b3,b4,b5,hCc,hc5⟩:=rr e4 e3;have HE:=y8;clear hT hT' hC hCt e1 e2 e3 e4;subst hCc;go_enter Tryz.func51,Tryz.ntmps51;go_wp2_with fail;go_upto_region 3 with(fail);refine jg 2 [(51,24,_),(105,21,_)] ?_;intro WB HB d0 sB _;refine bA (aw WB) [0,1,2,3,4,5,6] 7 af af (fun _ _ d _ _ h=>bo) ⟨(Below.refl _ _).drew⟩ ?_;simp only[PL];apply ae;·exact nI
 try simp only[PT]
 apply ae;·exact nI
 try simp only[PT]
 apply ae;·exact nI
 try simp only[PT]
 apply ae;·exact nI
 try simp only[PT]
 apply ae;·exact nI
 try simp only[PT]
 apply ae;·exact nI
 try simp only[PT]
 apply ae;·exact nI
 try simp only[PT]
 refine aC ?_;refine fT 7 11 af af af ?q7 ?q11;case' q7=>
  simp only[aU];go_wp2_with fail;refine(HN.out _ (fk)).mono ?_;rintro e w3⟨CO,rfl,hO,hb⟩;have sd3:WB.heap.size≤w3.heap.size:=Nat.le_trans (DV) hb.size;have hb3:Below WB.heap.size WB w3:=aj hb (fk) (DV);obtain⟨q0,q1,q2,q3,q4,q5,q6,q7,q8,q9,q10,q11,q12,q13,q14,q15,q16,q17,q18,q19,q20,rfl,ho⟩:=Hw hO;have HOA:=Lib.hid (fb (R':=Rn (fun q=>R q∧q<w.heap.size) WB.heap.size) hO (Kp.below (Below.refl _ _)) fun q h=>h.imp id fun h=>Nat.le_trans (DV) h);clear hb hO;go_wp2;refine am ⟨fk⟩ ?_;refine bb [8,9,10] 3 rfl af (fun _ _ d _ _ h=>bo) ⟨fk⟩ ?_;simp only[PL];apply ae;·exact nI
  try simp only[PT]
  apply ae;·exact nI
  try simp only[PT]
  apply ae;·exact nI
  try simp only[PT]
  refine aC ?_;refine aX 11 af af ?_;simp only[aU];go_wp2_with fail;refine am ⟨fk⟩ ?_;refine aX 12 af af ?_;simp only[aU];go_wp2_with fail;refine am ⟨fk⟩ ?_;refine bb [13] 0 rfl af (fun _ _ d _ _ h=>bo) ⟨fk⟩ ?_;simp only[PL];apply ae;·exact nI
  try simp only[PT]
  refine aC ?_;refine cw af ?_;have HR:=Lib.hid (show Bx (w3.alloc (.cells #[q0,q1,q2,q3,q4,q5,q6,q7,q8,q9,q10,q11,q12,q13,q14,q15,q16,q17,q18,q19,q20] 105)) w3.heap.size [(105,21,#[q0,q1,q2,q3,q4,q5,q6,q7,q8,q9,q10,q11,q12,q13,q14,q15,q16,q17,q18,q19,q20])]from⟨Bo.of F4 rfl,trivial⟩);have kk4:Below WB.heap.size WB (w3.alloc (.cells #[q0,q1,q2,q3,q4,q5,q6,q7,q8,q9,q10,q11,q12,q13,q14,q15,q16,q17,q18,q19,q20] 105)):=hb3.alloc aa _;have HO4:=Lib.hid (fb HOA.out (Kp.below ((Below.refl w3.heap.size w3).alloc (Nat.le_refl _) (.cells #[q0,q1,q2,q3,q4,q5,q6,q7,q8,q9,q10,q11,q12,q13,q14,q15,q16,q17,q18,q19,q20] 105))) fun _ h=>h);have rs:WB.heap.size≤w3.heap.size∧w3.heap.size<(w3.alloc (.cells #[q0,q1,q2,q3,q4,q5,q6,q7,q8,q9,q10,q11,q12,q13,q14,q15,q16,q17,q18,q19,q20] 105)).heap.size:=⟨sd3,ay⟩;clear HOA sd3 hb3;generalize(w3.alloc (.cells #[q0,q1,q2,q3,q4,q5,q6,q7,q8,q9,q10,q11,q12,q13,q14,q15,q16,q17,q18,q19,q20] 105))=W4 at*;generalize w3.heap.size=r at*
 case' q11=>
  simp only[aU];go_wp2_with fail;refine am ⟨fk⟩ ?_;refine aX 7 af af ?_;simp only[aU];go_wp2_with fail;refine(HN.out _ (fk)).mono ?_;rintro e w3⟨CO,rfl,hO,hb⟩;obtain⟨sd3,hb3,HR3⟩:=yY;obtain⟨q0,q1,q2,q3,q4,q5,q6,q7,q8,q9,q10,q11,q12,q13,q14,q15,q16,q17,q18,q19,q20,rfl,ho⟩:=Hw hO;have HOA:=Lib.hid (fb (R':=Rn (fun q=>R q∧q<w.heap.size) (WB.heap.size+1)) hO (Kp.below (Below.refl _ _)) fun q h=>h.imp id fun h=>Nat.le_trans ay h);have fR3:=HR3;simp only[Bx,Bo]at fR3;clear hb hO;go_wp2;refine am ⟨fk⟩ ?_;refine bb [8,9,10] 2 rfl af (fun _ _ d _ _ h=>bo) ⟨fk⟩ ?_;simp only[PL];apply ae;·exact nI
  try simp only[PT]
  apply ae;·exact nI
  try simp only[PT]
  apply ae;·exact nI
  try simp only[PT]
  refine aC ?_;refine aX 12 af af ?_;simp only[aU];go_wp2_with fail;refine am ⟨fk⟩ ?_;refine bb [13] 0 rfl af (fun _ _ d _ _ h=>bo) ⟨fk⟩ ?_;simp only[PL];apply ae;·exact nI
  try simp only[PT]
  refine aC ?_;refine cw af ?_;have HR:=Lib.hid (show Bx (w3.setRow WB.heap.size #[q0,q1,q2,q3,q4,q5,q6,q7,q8,q9,q10,q11,q12,q13,q14,q15,q16,q17,q18,q19,q20]) WB.heap.size [(105,21,#[q0,q1,q2,q3,q4,q5,q6,q7,q8,q9,q10,q11,q12,q13,q14,q15,q16,q17,q18,q19,q20])]from HR3.set (i:=0) (C:=#[q0,q1,q2,q3,q4,q5,q6,q7,q8,q9,q10,q11,q12,q13,q14,q15,q16,q17,q18,q19,q20]) (fun _ _ _ e=>iy));have kk4:Below WB.heap.size WB (w3.setRow WB.heap.size #[q0,q1,q2,q3,q4,q5,q6,q7,q8,q9,q10,q11,q12,q13,q14,q15,q16,q17,q18,q19,q20]):=ai hb3 (Nat.le_refl _) _;have HO4:=Lib.hid (fb (R':=Rn (fun q=>R q∧q<w.heap.size) WB.heap.size) HOA.out (Kp.setRow (T:=WB.heap.size) (C:=#[q0,q1,q2,q3,q4,q5,q6,q7,q8,q9,q10,q11,q12,q13,q14,q15,q16,q17,q18,q19,q20]) pG) fun q h=>h.imp id fun h=>aa);have rs:WB.heap.size≤WB.heap.size∧WB.heap.size<(w3.setRow WB.heap.size #[q0,q1,q2,q3,q4,q5,q6,q7,q8,q9,q10,q11,q12,q13,q14,q15,q16,q17,q18,q19,q20]).heap.size:=⟨Nat.le_refl _,pJ⟩;clear HOA sd3 hb3 HR3 fR3;generalize(w3.setRow WB.heap.size #[q0,q1,q2,q3,q4,q5,q6,q7,q8,q9,q10,q11,q12,q13,q14,q15,q16,q17,q18,q19,q20])=W4 at*;obtain⟨r,hr⟩:∃r,WB.heap.size=r:=⟨_,rfl⟩;rw[hr]at HR⊢;rw[hr]at rs
 all_goals
  obtain⟨d4,HB4,HB41⟩:=yZ;have hO4:=HO4.out;obtain⟨CV,eO,hV4⟩:=id hO4;have HM:=Lib.hid (fun(W:World)(b:Below w.heap.size w W)=>PP (inn:=x.m.inn) (out:=x.m.out) (a1:=a1) (m1:=m1) (c1:=c1) (a2:=a2) (m2:=m2) (c2:=c2) (a3:=a3) (c3:=c3) S h0 h1 o hf CV hV4.size hV4.ones CL lv.1 al _ cl lv.2 rfl k hk' hD _ who W (HSL.out.below b));rw[←eO,←hm.sh]at HM;clear eO hV4;have hrb:=And.intro (show¬(r=w.heap.size+1)by omega) (And.intro (show¬(w.heap.size+1=r)by omega) (And.intro (show¬(r=w.heap.size)by omega) (show¬(w.heap.size=r)by omega)));have fB4:=HB4.out;have fR4:=HR.out;simp only[Bx,Bo]at fB4 fR4;go_upto_region 4 with(fail);refine bA (ax (w.heap.size+1) W4) [0,1,2] 8 af af (fun _ _ d _ _ h=>bo) (ax.refl _ _).drew ?_;simp only[PL];apply ae;·exact nP
  try simp only[PT]
  apply ae;·exact nP
  try simp only[PT]
  apply ae;·exact nP
  try simp only[PT]
  refine aC ?_;refine eI 3 af (fun _ _ d _ _ h=>bo) (Ah) ?_;simp only[aU];apply jO (hw:=gQ);·exact nP
  try simp only[PT]
  refine eI 4 af (fun _ _ d _ _ h=>bo) (Ah) ?_;simp only[aU];apply jO (hw:=gQ);·exact nP
  try simp only[PT]
  refine eI 5 af (fun _ _ d _ _ h=>bo) (Ah) ?_;simp only[aU];apply jO (hw:=gQ);·exact nP
  try simp only[PT]
  refine eI 6 af (fun _ _ d _ _ h=>bo) (Ah) ?_;simp only[aU];apply jO (hw:=gQ);·exact nP
  try simp only[PT]
  refine aX 7 af af ?_;simp only[aU];go_wp2_with fail;refine(HM.out _ (by repeat'(first|exact d4|(with_reducible apply Below.drew)))).mono ?_;rintro e w5⟨rfl,hb⟩;have b5:Below W4.heap.size W4 w5:=aj hb ((Below.refl W4.heap.size W4).drew) (Nat.le_refl _);have HB5:=Bx.mono b5 HB4.out aF;have hRq:=Bx.mono b5 HR.out aF;simp only[Bx,Bo]at HB5 hRq;clear hb;go_wp2;refine am (Ah) ?_;refine bb [8] 2 rfl af (fun _ _ d _ _ h=>bo) (Ah) ?_;simp only[PL];apply ae;·exact nP
  try simp only[PT]
  refine aC ?_;refine aX 9 af af ?_;simp only[aU];go_wp2_with fail;refine am (Ah) ?_;refine bb [10] 0 rfl af (fun _ _ d _ _ h=>bo) (Ah) ?_;simp only[PL];apply ae;·exact nP
  try simp only[PT]
  refine aC ?_;refine cw af ?_;go_wp2;refine bodyPost_ret (v:=.tuple #[.agg #[q0,q1,q2,q3,q4,q5,q6,q7,q8,q9,q10,q11,q12,q13,q14,q15,q16,q17,q18,q19,q20],.bool (ia o lv)]) (ci (t:=105) Tryz.results51 _ _ _ rfl ?_ ?_ fG j9) rfl ?_;·go_simp
  ·go_simp
  exact⟨_,rfl,fb (R:=Rn (fun q=>R q∧q<w.heap.size) WB.heap.size) HO4.out ((Kp.below b5).trans (Kp.setRow (T:=w.heap.size+1) pG)) (fun q h=>by rcases h with h|h;exact .inl h.1;exact .inr aa),ai (d4.trans (b5.mono aa)) aa _⟩
theorem BJ(x:Wo)(who:Nat)(t:Tk)(ht:x.ts[who]? =some t)(hl:t.calls.length≤t.nth){R:Nat→Prop}(X:Array Value)(w:World)(h:nH R w X x):Calls Tryz.prog 51 #[.agg X,who] w fun e w'=>e= .returned (.tuple #[.agg #[Z,Z,Z,Z,Z,Z,Z,Z,F,U,U,Z,F,Z,Z,Z,Z,Z,V,V,F],F])∧Below w.heap.size w w':=by
 obtain⟨k1,k2,k3,k4,k5,k6,k7,k8,k9,k10,k11,k12,k13,k14,k15,k16,a1,m1,c1,a2,m2,c2,a3,c3,a4,c4,aT,cT,aG,cG,hk,hko,rfl,hM,⟨CT,hT,hT'⟩,hG⟩:=(mM h).open;obtain⟨C,hC,hCt⟩:=hT'.at ht;obtain⟨g,oo,cL,e0,hg,e1,e2,e3,e4⟩:=eC hT.1 hC;simp only[Value.slice.injEq]at e0;obtain⟨rfl,-,rfl⟩:=e0;have hwl:who<x.ts.length:=(List.getElem?_eq_some_iff.1 ht).1;have HN:=Lib.hid (fun(W:World)(k:Below w.heap.size w W)=>A1 x.K (by rw[hk];rfl) (MT) t hl C W (dB hCt (Kp.below k) fun _ h=>h));rw[hk]at HN;have n1:¬((who:Int)<0):=aa;have n2:¬((x.ts.length:Int)≤(who:Int)):=aa;have n3:(who:Int)<(x.ts.length:Int):=aa;have n4:0≤(who:Int):=aa;have g1:g<w.heap.size+1:=aa;have g2:g<w.heap.size+1+1:=aa;obtain⟨b1,b2,b3,b4,b5,hCc,hc5⟩:=rr e4 e3;have HE:=y8;clear hT hT' hC hCt e1 e2 e3 e4;subst hCc;go_enter Tryz.func51,Tryz.ntmps51;go_wp2_with fail;go_upto_region 3 with(fail);refine jg 2 [(51,24,_),(105,21,_)] ?_;intro WB HB d0 sB _;refine bA (aw WB) [0,1,2,3,4,5,6] 7 af af (fun _ _ d _ _ h=>bo) ⟨(Below.refl _ _).drew⟩ ?_;simp only[PL];apply ae;·exact nI
 try simp only[PT]
 apply ae;·exact nI
 try simp only[PT]
 apply ae;·exact nI
 try simp only[PT]
 apply ae;·exact nI
 try simp only[PT]
 apply ae;·exact nI
 try simp only[PT]
 apply ae;·exact nI
 try simp only[PT]
 apply ae;·exact nI
 try simp only[PT]
 refine aC ?_;refine fT 7 11 af af af ?q7 ?q11;case' q7=>
  simp only[aU];go_wp2_with fail;refine(HN.out _ (fk)).mono ?_;rintro e w3⟨rfl,hb⟩;have sd3:WB.heap.size≤w3.heap.size:=Nat.le_trans (DV) hb.size;have hb3:Below WB.heap.size WB w3:=aj hb (fk) (DV);clear hb;go_wp2;refine am ⟨fk⟩ ?_;refine bb [8,9,10] 3 rfl af (fun _ _ d _ _ h=>bo) ⟨fk⟩ ?_;simp only[PL];apply ae;·exact nI
  try simp only[PT]
  apply ae;·exact nI
  try simp only[PT]
  apply ae;·exact nI
  try simp only[PT]
  refine aC ?_;refine aX 11 af af ?_;simp only[aU];go_wp2_with fail;refine am ⟨fk⟩ ?_;refine aX 12 af af ?_;simp only[aU];go_wp2_with fail;refine am ⟨fk⟩ ?_;refine bb [13] 0 rfl af (fun _ _ d _ _ h=>bo) ⟨fk⟩ ?_;simp only[PL];apply ae;·exact nI
  try simp only[PT]
  refine aC ?_;refine cw af ?_;have HR:=Lib.hid (show Bx (w3.alloc (.cells #[Z,Z,Z,Z,Z,Z,Z,Z,F,U,U,Z,F,Z,Z,Z,Z,Z,V,V,F] 105)) w3.heap.size [(105,21,#[Z,Z,Z,Z,Z,Z,Z,Z,F,U,U,Z,F,Z,Z,Z,Z,Z,V,V,F])]from⟨Bo.of F4 rfl,trivial⟩);have kk4:Below WB.heap.size WB (w3.alloc (.cells #[Z,Z,Z,Z,Z,Z,Z,Z,F,U,U,Z,F,Z,Z,Z,Z,Z,V,V,F] 105)):=hb3.alloc aa _;have rs:WB.heap.size≤w3.heap.size∧w3.heap.size<(w3.alloc (.cells #[Z,Z,Z,Z,Z,Z,Z,Z,F,U,U,Z,F,Z,Z,Z,Z,Z,V,V,F] 105)).heap.size:=⟨sd3,ay⟩;clear sd3 hb3;generalize(w3.alloc (.cells #[Z,Z,Z,Z,Z,Z,Z,Z,F,U,U,Z,F,Z,Z,Z,Z,Z,V,V,F] 105))=W4 at*;generalize w3.heap.size=r at*
 case' q11=>
  simp only[aU];go_wp2_with fail;refine am ⟨fk⟩ ?_;refine aX 7 af af ?_;simp only[aU];go_wp2_with fail;refine(HN.out _ (fk)).mono ?_;rintro e w3⟨rfl,hb⟩;obtain⟨sd3,hb3,HR3⟩:=yY;have fR3:=HR3;simp only[Bx,Bo]at fR3;clear hb;go_wp2;refine am ⟨fk⟩ ?_;refine bb [8,9,10] 2 rfl af (fun _ _ d _ _ h=>bo) ⟨fk⟩ ?_;simp only[PL];apply ae;·exact nI
  try simp only[PT]
  apply ae;·exact nI
  try simp only[PT]
  apply ae;·exact nI
  try simp only[PT]
  refine aC ?_;refine aX 12 af af ?_;simp only[aU];go_wp2_with fail;refine am ⟨fk⟩ ?_;refine bb [13] 0 rfl af (fun _ _ d _ _ h=>bo) ⟨fk⟩ ?_;simp only[PL];apply ae;·exact nI
  try simp only[PT]
  refine aC ?_;refine cw af ?_;have HR:=Lib.hid (show Bx (w3.setRow WB.heap.size #[Z,Z,Z,Z,Z,Z,Z,Z,F,U,U,Z,F,Z,Z,Z,Z,Z,V,V,F]) WB.heap.size [(105,21,#[Z,Z,Z,Z,Z,Z,Z,Z,F,U,U,Z,F,Z,Z,Z,Z,Z,V,V,F])]from HR3.set (i:=0) (C:=#[Z,Z,Z,Z,Z,Z,Z,Z,F,U,U,Z,F,Z,Z,Z,Z,Z,V,V,F]) (fun _ _ _ e=>iy));have kk4:Below WB.heap.size WB (w3.setRow WB.heap.size #[Z,Z,Z,Z,Z,Z,Z,Z,F,U,U,Z,F,Z,Z,Z,Z,Z,V,V,F]):=ai hb3 (Nat.le_refl _) _;have rs:WB.heap.size≤WB.heap.size∧WB.heap.size<(w3.setRow WB.heap.size #[Z,Z,Z,Z,Z,Z,Z,Z,F,U,U,Z,F,Z,Z,Z,Z,Z,V,V,F]).heap.size:=⟨Nat.le_refl _,pJ⟩;clear sd3 hb3 HR3 fR3;generalize(w3.setRow WB.heap.size #[Z,Z,Z,Z,Z,Z,Z,Z,F,U,U,Z,F,Z,Z,Z,Z,Z,V,V,F])=W4 at*;obtain⟨r,hr⟩:∃r,WB.heap.size=r:=⟨_,rfl⟩;rw[hr]at HR⊢;rw[hr]at rs
 all_goals
  obtain⟨d4,HB4,HB41⟩:=yZ;have hrb:=And.intro (show¬(r=w.heap.size+1)by omega) (And.intro (show¬(w.heap.size+1=r)by omega) (And.intro (show¬(r=w.heap.size)by omega) (show¬(w.heap.size=r)by omega)));have fB4:=HB4.out;have fR4:=HR.out;simp only[Bx,Bo]at fB4 fR4;go_upto_region 4 with(fail);refine bA (ax (w.heap.size+1) W4) [0,1,2] 8 af af (fun _ _ d _ _ h=>bo) (ax.refl _ _).drew ?_;simp only[PL];apply ae;·exact nP
  try simp only[PT]
  apply ae;·exact nP
  try simp only[PT]
  apply ae;·exact nP
  try simp only[PT]
  refine aC ?_;refine eI 3 af (fun _ _ d _ _ h=>bo) (Ah) ?_;simp only[aU];refine jN gQ ?_;try simp only[PT]
  refine eI 4 af (fun _ _ d _ _ h=>bo) (Ah) ?_;simp only[aU];refine jN gQ ?_;try simp only[PT]
  refine eI 5 af (fun _ _ d _ _ h=>bo) (Ah) ?_;simp only[aU];refine jN gQ ?_;try simp only[PT]
  refine eI 6 af (fun _ _ d _ _ h=>bo) (Ah) ?_;simp only[aU];refine jN gQ ?_;try simp only[PT]
  refine eI 7 af (fun _ _ d _ _ h=>bo) (Ah) ?_;simp only[aU];refine jN gQ ?_;try simp only[PT]
  refine bb [8] 2 rfl af (fun _ _ d _ _ h=>bo) (Ah) ?_;simp only[PL];apply ae;·exact nP
  try simp only[PT]
  refine aC ?_;refine aX 9 af af ?_;simp only[aU];go_wp2_with fail;refine am (Ah) ?_;refine bb [10] 0 rfl af (fun _ _ d _ _ h=>bo) (Ah) ?_;simp only[PL];apply ae;·exact nP
  try simp only[PT]
  refine aC ?_;refine cw af ?_;go_wp2;refine bodyPost_ret (v:=.tuple #[.agg #[Z,Z,Z,Z,Z,Z,Z,Z,F,U,U,Z,F,Z,Z,Z,Z,Z,V,V,F],F]) (ci (t:=105) Tryz.results51 _ _ _ rfl ?_ ?_ fG j9) rfl ?_;·go_simp
  ·go_simp
  exact⟨rfl,ai (d4.drew) aa _⟩
end
section
attribute[local go_sem high]ah
attribute[local simp high]ah
theorem vf(c:Cv)(N:List (Nt×Int))(L:List En)(P:List Pe)(hS:OY c N L P)(h0:0≤c.sec)(hNU:∀y∈N,Fm y)(hn:N.length≤1000)(hl:L.length≤1000)(hp:P.length≤1000)(vb vk vp:Value)(w:World)(hb:Sl w vb 5 (N.map di))(hk:Sl w vk 7 (L.map bh))(hv:Sl w vp 10 (P.map eT)):Calls Tryz.prog 19 #[.agg (ld c),.agg #[vb,vk,vp]] w fun e w'=>e= .returned Y∧Below w.heap.size w w':=by
 obtain⟨hcv,⟨hN,hNp⟩,⟨hL,hLp⟩,⟨hP,hPp⟩,n1,l1,p1,p2,q1,q2⟩:=hS;have hC:=Lib.hid (fun W=>Nf c hcv h0 W);have hN42:=Lib.hid (fun W(k:Below w.heap.size w W)=>FN N (fun y hy=>⟨(hNU y hy).2,Da (hNU y hy).1 (hNU y hy).2 (hN y hy).1,(hN y hy).2.1,(hN y hy).2.2⟩) (hNp.imp id) hn vb W (hb.below k));have hL43:=Lib.hid (fun W(k:Below w.heap.size w W)=>FT L hL (hLp.imp id) hl vk W (hk.below k));have hP44:=Lib.hid (fun W(k:Below w.heap.size w W)=>Lv P hP (hPp.imp id) hp vp W (hv.below k));have hP45:=Lib.hid (fun W(k:Below w.heap.size w W)=>sR true P aa vp W (hv.below k));obtain⟨ab,cb',eb,-⟩:=id hb;have hD46:=Lib.hid (fun W(k:Below w.heap.size w W)=>Ho L P hl hp vb vk vp ab (N.map di).length cb' eb W (hk.below k) (hv.below k));have hD47:=Lib.hid (fun W(k:Below w.heap.size w W)=>Hr L P hl hp (K8 (P3 hPp) q1 q2) (Il (Q2 hLp) (P3 hPp) q1 q2) vb vk vp ab (N.map di).length cb' eb W (hk.below k) (hv.below k));subst eb;obtain⟨ak,ck,rfl,-⟩:=id hk;obtain⟨ap,cp,rfl,-⟩:=id hv;clear hb hk hv hNU hN hNp hL hLp hP hPp q1 q2 hl hp hn;generalize hnb:(N.map di).length=nb at*;generalize hnk:(L.map bh).length=nk at*;generalize hnp:(P.map eT).length=np at*;rw[List.length_map]at hnb hnk hnp;rw[hnb]at n1;rw[hnk]at l1;generalize gF true P=xp at*;generalize gF false P+je 2 L=xd at*;clear hnb hnk hnp hcv h0;have b0:decide ((nb:Int)≤c.mb)=true:=decide_eq_true n1;have b1:decide ((nk:Int)≤c.mbk)=true:=decide_eq_true l1;have b2:decide ((xp:Int)≤c.mi)=true:=decide_eq_true p1;have b3:decide ((xd:Int)≤c.mo)=true:=decide_eq_true p2;replace n1:=Lib.hid n1;replace l1:=Lib.hid l1;replace p1:=Lib.hid p1;replace p2:=Lib.hid p2;unfold ld at*;go_enter Tryz.func19,Tryz.ntmps19;go_wp2_with fail;refine en 2 [(29,16,_),(57,3,_)] ?_;intro WB HB d0 sWB fHB;simp only[Bx,Bo]at fHB;refine(hC.out _).mono ?_;rintro e w1⟨rfl,hb⟩;have HB1:=cD hb HB;have d1:=dE d0 hb;have s1:=hb.size;have f1:=HB1.out;simp only[Bx,Bo]at f1;clear hb fHB;go_wp2_with fail;refine(hN42.out _ d1).mono ?_;rintro e w2⟨rfl,hb⟩;have HB2:=cD hb HB1;have d2:=dE d1 hb;have s2:=hb.size;have f2:=HB2.out;simp only[Bx,Bo]at f2;clear hb f1;go_wp2_with fail;refine(hL43.out _ d2).mono ?_;rintro e w3⟨rfl,hb⟩;have HB3:=cD hb HB2;have d3:=dE d2 hb;have s3:=hb.size;have f3:=HB3.out;simp only[Bx,Bo]at f3;clear hb f2;go_wp2_with fail;refine(hP44.out _ d3).mono ?_;rintro e w4⟨rfl,hb⟩;have HB4:=cD hb HB3;have d4:=dE d3 hb;have s4:=hb.size;have f4:=HB4.out;simp only[Bx,Bo]at f4;clear hb f3;go_upto_region 3 with(fail);have HF:=i8 HB4;refine cQ (aw w4) [0,1,2,3,4,5,6] 27 ?_;iterate 7 refine pO ?_
 refine pE ?_;refine gY 7 ?_;refine gY 8 ?_;refine gY 9 ?_;refine gY 10 ?_;refine gY 11 ?_;refine gY 12 ?_;refine bE [13,14] 19 ?_;iterate 2 refine pO ?_
 refine pE ?_;refine gY 15 ?_;refine gY 16 ?_;refine gY 18 ?_;refine gY 19 ?_;refine bl 17 ?_;simp only[PL];go_wp2_with fail;refine(hP45.out _ (d4.trans ((cb:Below w4.heap.size w4 _).mono d4.size))).mono ?_;rintro e w17q⟨rfl,hb⟩;have kq17:Below w4.heap.size w4 w17q:=aj hb cb cs;have hk17:=aw.mk kq17;have sq17:=kq17.size;have hB17:=Bx.mono kq17 HB4.out aF;simp only[Bx,Bo]at hB17;clear hb;go_wp2;refine ba ?_;refine gY 20 ?_;refine bE [21,22] 11 ?_;iterate 2 refine pO ?_
 refine pE ?_;refine gY 23 ?_;refine gY 25 ?_;refine gY 26 ?_;refine bl 24 ?_;simp only[PL];go_wp2_with fail;refine(hD46.out _ (d4.trans ((cb:Below w4.heap.size w4 _).mono d4.size))).mono ?_;rintro e w24q⟨rfl,hb⟩;have kq24:Below w4.heap.size w4 w24q:=aj hb cb cs;have hk24:=aw.mk kq24;have sq24:=kq24.size;have hB24:=Bx.mono kq24 HB4.out aF;simp only[Bx,Bo]at hB24;clear hb;go_wp2;refine ba ?_;refine gY 27 ?_;refine bE [28,29] 4 ?_;iterate 2 refine pO ?_
 refine pE ?_;refine gY 30 ?_;refine bl 31 ?_;simp only[PL];go_wp2_with fail;refine(hD47.out _ (d4.trans ((cb:Below w4.heap.size w4 _).mono d4.size))).mono ?_;rintro e w31q⟨rfl,hb⟩;have kq31:Below w4.heap.size w4 w31q:=aj hb cb cs;have hk31:=aw.mk kq31;have sq31:=kq31.size;have hB31:=Bx.mono kq31 HB4.out aF;simp only[Bx,Bo]at hB31;clear hb;go_wp2;refine ba ?_;refine bE [32,33] 0 ?_;iterate 2 refine pO ?_
 refine pE ?_;refine cU ?_;go_wp2;go_ret;exact⟨rfl,d4.trans ((cb:Below w4.heap.size w4 _).mono d4.size)⟩
end
section
attribute[local go_sem high]ah
attribute[local simp high]ah
theorem pr{p:Prop}(h:PQ p:=by have kq3:Below WB.heap.size WB w3q:=aj hb cb cs;have hk3:=aw.mk kq3;have hB3:=Bx.mono kq3 HB.out aF;exact pq (And.intro kq3 (And.intro hk3 hB3))):p:=h
theorem BC{p:Prop}(h:p:=by
 refine bl 8 ?_;simp only[PL];go_wp2;refine ba ?_;refine bE [9] 0 ?_;refine pO ?_;refine pE ?_;refine cU ?_;go_wp2_with fail;go_wp2;refine bodyPost_ret (v:=.agg #[six,J (pm six hi gb),J (nJ six lo gb),gb]) (aN (t:=39) Tryz.results126 _ _ _ rfl ?_ ?_ gH lm) rfl ?_;·go_simp
 ·go_simp
 exact⟨rfl,Jz⟩):p:=h
theorem BD{p:Prop}(h:p:=by
 refine bl 8 ?_;simp only[PL];go_wp2;refine ba ?_;refine bE [9] 0 ?_;refine pO ?_;refine pE ?_;refine cU ?_;go_wp2_with fail;go_wp2;refine bodyPost_ret (v:=.agg #[F,U,U,Z]) (aN (t:=39) Tryz.results126 _ _ _ rfl ?_ ?_ gH lm) rfl ?_;·go_simp
 ·go_simp
 exact⟨rfl,Jz⟩):p:=h
def Ny(six:Bool)(hi lo:Int):Array Value:=if ir six hi lo=true then#[six,J (pm six hi (gq six)),J (nJ six lo (gq six)),I (gq six)]else#[F,U,U,Z]
theorem Kj(six:Bool)(hi lo:Int)(hl:U6 lo)(w:World):Calls Tryz.prog 126 #[.agg #[six,J hi,J lo]] w fun e w'=>e= .returned (.agg (Ny six hi lo))∧Below w.heap.size w w':=by
 unfold Ny;have HG:=Lib.hid (fun(W:World)=>ki six hi lo W);by_cases h:Dc six hi lo (gq six);·
  have HM:=Lib.hid (fun(W:World)=>qM six hi lo (gq six) hl h W);rw[if_pos h.1];clear h;generalize(gq six)=gb at*;go_enter Tryz.func126,Tryz.ntmps126;go_upto_region 1 with(fail);refine jg 2 [(34,3,_),(39,4,_)] ?_;intro WB HB d0 sWB fHB;simp only[Bx,Bo]at fHB;have HF:=i8 HB;refine cQ (aw WB) [0,1] 8 ?_;iterate 2 refine pO ?_
  refine pE ?_;refine xo 2 7 ?_ ?_;·
   simp only[PL];go_wp2_with fail;refine(HG.out _).mono ?_;rintro e w2q⟨rfl,hb⟩;have kq2:Below WB.heap.size WB w2q:=aj hb cb cs;have hk2:=aw.mk kq2;have hB2:=Bx.mono kq2 HB.out aF;simp only[Bx,Bo]at hB2;have sq2:=kq2.size;clear hb;go_wp2;refine ba ?_;refine xo 3 7 ?_ ?_;·
    simp only[PL];go_wp2_with fail;refine(HM.out _).mono ?_;rintro e w3q⟨rfl,hb⟩;obtain⟨kq3,hk3,hB3⟩:=pr;simp only[Bx,Bo]at hB3;have sq3:=kq3.size;clear hb;go_wp2;refine ba ?_;refine bE [4,5,6] 3 ?_;iterate 3 refine pO ?_
    refine pE ?_;refine bl 7 ?_;simp only[PL];go_wp2;refine ba ?_;exact BC
   ·simp only[PL];go_wp2;refine ba ?_;refine bl 3 ?_;simp only[PL];go_wp2_with fail;refine(HM.out _).mono ?_;rintro e w3q⟨rfl,hb⟩;obtain⟨kq3,hk3,hB3⟩:=pr;simp only[Bx,Bo]at hB3;have hR3:=Bx.mono (g:=w2q.heap.size) (L:=[(39,4,#[F,U,U,Z])]) hb dY ay;have hR3k:=hR3;simp only[Bx,Bo]at hR3;have sr2:w.heap.size+2≤WB.heap.size:=sWB;have sq3:=kq3.size;clear hb;go_wp2;refine ba ?_;refine bE [4,5,6] 2 ?_;iterate 3 refine pO ?_
    refine pE ?_;exact BC
  ·simp only[PL];go_wp2;refine ba ?_;refine bl 2 ?_;simp only[PL];go_wp2_with fail;refine(HG.out _).mono ?_;rintro e w2q⟨rfl,hb⟩;have kq2:Below WB.heap.size WB w2q:=aj hb cb cs;have hk2:=aw.mk kq2;have hB2:=Bx.mono kq2 HB.out aF;simp only[Bx,Bo]at hB2;have hR2:=Bx.mono (g:=WB.heap.size) (L:=[(39,4,#[F,U,U,Z])]) hb dY ay;have hR2k:=hR2;simp only[Bx,Bo]at hR2;have sq2:=kq2.size;clear hb;go_wp2;refine ba ?_;refine bl 3 ?_;simp only[PL];go_wp2_with fail;refine(HM.out _).mono ?_;rintro e w3q⟨rfl,hb⟩;obtain⟨kq3,hk3,hB3⟩:=pr;simp only[Bx,Bo]at hB3;have hR3:=Bx.mono (g:=WB.heap.size) (L:=[(39,4,#[F,U,U,Z])]) hb hR2k aF;have hR3k:=hR3;simp only[Bx,Bo]at hR3;have sr2:w.heap.size+2≤WB.heap.size:=sWB;have sq3:=kq3.size;clear hb;go_wp2;refine ba ?_;refine bE [4,5,6] 2 ?_;iterate 3 refine pO ?_
   refine pE ?_;exact BC
 ·have HM:=Lib.hid (fun(W:World)=>qN six hi lo (gq six) hl h W);have hn:¬(ir six hi lo=true):=fun e=>h ⟨e,by first|(unfold gq;split<;>omega)|(split<;>omega),by first|(unfold gq;split<;>omega)|omega⟩;rw[if_neg hn];clear h hn;generalize(gq six)=gb at*;go_enter Tryz.func126,Tryz.ntmps126;go_upto_region 1 with(fail);refine jg 2 [(34,3,_),(39,4,_)] ?_;intro WB HB d0 sWB fHB;simp only[Bx,Bo]at fHB;have HF:=i8 HB;refine cQ (aw WB) [0,1] 8 ?_;iterate 2 refine pO ?_
  refine pE ?_;refine xo 2 7 ?_ ?_;·
   simp only[PL];go_wp2_with fail;refine(HG.out _).mono ?_;rintro e w2q⟨rfl,hb⟩;have kq2:Below WB.heap.size WB w2q:=aj hb cb cs;have hk2:=aw.mk kq2;have hB2:=Bx.mono kq2 HB.out aF;simp only[Bx,Bo]at hB2;have sq2:=kq2.size;clear hb;go_wp2;refine ba ?_;refine xo 3 7 ?_ ?_;·
    simp only[PL];go_wp2_with fail;refine(HM.out _).mono ?_;rintro e w3q⟨rfl,hb⟩;obtain⟨kq3,hk3,hB3⟩:=pr;simp only[Bx,Bo]at hB3;have sq3:=kq3.size;clear hb;go_wp2;refine ba ?_;refine bE [4,5,6] 3 ?_;iterate 3 refine pO ?_
    refine pE ?_;refine bl 7 ?_;simp only[PL];go_wp2;refine ba ?_;exact BD
   ·simp only[PL];go_wp2;refine ba ?_;refine bl 3 ?_;simp only[PL];go_wp2_with fail;refine(HM.out _).mono ?_;rintro e w3q⟨rfl,hb⟩;obtain⟨kq3,hk3,hB3⟩:=pr;simp only[Bx,Bo]at hB3;have hR3:=Bx.mono (g:=w2q.heap.size) (L:=[(39,4,#[F,U,U,Z])]) hb dY ay;have hR3k:=hR3;simp only[Bx,Bo]at hR3;have sr2:w.heap.size+2≤WB.heap.size:=sWB;have sq3:=kq3.size;clear hb;go_wp2;refine ba ?_;refine bE [4,5,6] 2 ?_;iterate 3 refine pO ?_
    refine pE ?_;exact BD
  ·simp only[PL];go_wp2;refine ba ?_;refine bl 2 ?_;simp only[PL];go_wp2_with fail;refine(HG.out _).mono ?_;rintro e w2q⟨rfl,hb⟩;have kq2:Below WB.heap.size WB w2q:=aj hb cb cs;have hk2:=aw.mk kq2;have hB2:=Bx.mono kq2 HB.out aF;simp only[Bx,Bo]at hB2;have hR2:=Bx.mono (g:=WB.heap.size) (L:=[(39,4,#[F,U,U,Z])]) hb dY ay;have hR2k:=hR2;simp only[Bx,Bo]at hR2;have sq2:=kq2.size;clear hb;go_wp2;refine ba ?_;refine bl 3 ?_;simp only[PL];go_wp2_with fail;refine(HM.out _).mono ?_;rintro e w3q⟨rfl,hb⟩;obtain⟨kq3,hk3,hB3⟩:=pr;simp only[Bx,Bo]at hB3;have hR3:=Bx.mono (g:=WB.heap.size) (L:=[(39,4,#[F,U,U,Z])]) hb hR2k aF;have hR3k:=hR3;simp only[Bx,Bo]at hR3;have sr2:w.heap.size+2≤WB.heap.size:=sWB;have sq3:=kq3.size;clear hb;go_wp2;refine ba ?_;refine bE [4,5,6] 2 ?_;iterate 3 refine pO ?_
   refine pE ?_;exact BD
open Plain
theorem KS(K:BitVec 64)(a b c d:Int)(ha:U6 a)(hb:U6 b)(hc:U6 c)(hd:U6 d)(w:World)(g cap:Nat)(h0:w.cell? ⟨g,0,none⟩=some (.int .u64 a))(h1:w.cell? ⟨g,1,none⟩=some (.int .u64 b))(h2:w.cell? ⟨g,2,none⟩=some (.int .u64 c))(h3:w.cell? ⟨g,3,none⟩=some (.int .u64 d)):Calls Tryz.prog 178 #[J (toI K),G g 4 cap] w fun e w'=>(∃X:BitVec 64,e= .returned (J (toI X)))∧w=w':=by
 refine(wO K [BitVec.ofInt 64 a,BitVec.ofInt 64 b,BitVec.ofInt 64 c,BitVec.ofInt 64 d] g 0 cap w (by unfold maxLen;simp) (fun k hk=>?_)).mono ?_;·
  match k,hk with
   |0,_=>show(_:Option Value)=some (Value.int .u64 (toI (BitVec.ofInt 64 a)));rw[toI_ofInt ha.1 ha.2];exact h0
   |1,_=>show(_:Option Value)=some (Value.int .u64 (toI (BitVec.ofInt 64 b)));rw[toI_ofInt hb.1 hb.2];exact h1
   |2,_=>show(_:Option Value)=some (Value.int .u64 (toI (BitVec.ofInt 64 c)));rw[toI_ofInt hc.1 hc.2];exact h2
   |3,_=>show(_:Option Value)=some (Value.int .u64 (toI (BitVec.ofInt 64 d)));rw[toI_ofInt hd.1 hd.2];exact h3
 ·rintro e w'⟨rfl,rfl⟩;exact⟨⟨_,rfl⟩,rfl⟩
theorem NZ(K:BitVec 64)(six:Bool)(hi lo b:Int)(hh:U6 hi)(hl:U6 lo)(hb0:0≤b)(hb1:b≤128)(w:World):Calls Tryz.prog 125 #[J (toI K),.agg #[six,J hi,J lo,b]] w fun e w'=>(∃X:BitVec 64,e= .returned (J (toI X)))∧Below w.heap.size w w':=by
 have HO:=Lib.hid (fun a c d ha hc hd=>KS K a hi c d ha hh hc hd);have hw:IntKind.u64.wrap b=b:=uB;have hbu:U6 b:=⟨hb0,aa⟩;have u4:U6 4:=by unfold U6;omega
 have u6:U6 6:=by unfold U6;omega
 replace hh:=Lib.hid hh;replace hl:=Lib.hid hl;replace hbu:=Lib.hid hbu;replace u4:=Lib.hid u4;replace u6:=Lib.hid u6;generalize toI K=kI at*;cases six;·go_enter Tryz.func125,Tryz.ntmps125;go_wp2_with fail;refine(HO.out 4 lo b u4.out hl.out hbu.out _ _ _ dq dq dq dq).mono ?_;rintro e w1⟨⟨X,rfl⟩,rfl⟩;go_wp2;go_ret;exact⟨⟨X,rfl⟩,bY⟩
 ·go_enter Tryz.func125,Tryz.ntmps125;go_wp2_with fail;refine(HO.out 6 lo b u6.out hl.out hbu.out _ _ _ dq dq dq dq).mono ?_;rintro e w1⟨⟨X,rfl⟩,rfl⟩;go_wp2;go_ret;exact⟨⟨X,rfl⟩,bY⟩
theorem Lp(sec:Int)(hs:U6 sec)(six:Bool)(hi lo:Int)(hl:U6 lo)(hh:U6 hi)(hr:ir six hi lo=true)(S:Nat)(h0:1≤S)(h1:S≤8)(w:World):Calls Tryz.prog 80 #[.agg #[six,J hi,J lo],J sec,S] w fun e w'=>(∃r:Nat,r<S∧e= .returned r)∧Below w.heap.size w w':=by
 have HF:=Lib.hid (fun(W:World)=>Kj six hi lo hl W);simp only[Ny,if_pos hr]at HF;have hU1:U6 (pm six hi (gq six)):=by unfold pm;split;exact tK _;exact hh
 have hU2:U6 (nJ six lo (gq six)):=by unfold nJ;split<;>exact tK _
 have hb:0≤gq six∧gq six≤128:=by unfold gq;split<;>omega
 have hsI:sec=toI (BitVec.ofInt 64 sec):=(toI_ofInt hs.1 hs.2).symm;have HN:=Lib.hid (fun(W:World)=>NZ (BitVec.ofInt 64 sec) six (pm six hi (gq six)) (nJ six lo (gq six)) (gq six) hU1 hU2 hb.1 hb.2 W);rw[←hsI]at HN;generalize pm six hi (gq six)=a at*;generalize nJ six lo (gq six)=b at*;generalize gq six=c at*;have HQ:=Lib.hid (fun(X:BitVec 64)(W:World)=>uz X (S:Int) W);have HL:=Lib.hid (fun(X:BitVec 64)=>And.intro (uy X (S:Int) aa aa) (uw X (S:Int) aa aa));clear hU1 hU2 hb hsI hs hl hh hr;go_enter Tryz.func80,Tryz.ntmps80;go_wp2_with fail;refine en 1 [(34,3,_)] ?_;intro WB HB d0 sWB fHB;simp only[Bx,Bo]at fHB;refine(HF.out _).mono ?_;rintro e w1⟨rfl,hb⟩;have d1:=dE d0 hb;have s1:=hb.size;clear hb fHB;go_wp2_with fail;refine(HN.out _).mono ?_;rintro e w2⟨⟨X,rfl⟩,hb⟩;have d2:=dE d1 hb;clear hb;go_wp2_with(go_at_call 79;refine(mj S aa aa _).mono ?_;rintro e w3⟨rfl,rfl⟩);refine(HQ.out X _).mono ?_;rintro e w4⟨rfl,rfl⟩;go_wp2;go_ret;refine⟨⟨(gt X S).toNat,?_,?_⟩,d2⟩;·have:=HL.out X;omega
 ·exact zr (Int.toNat_of_nonneg (HL.out X).1).symm
end
end Go.Proofs.YtnncjbkepakgpaaGreat
