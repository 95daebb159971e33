/- THE CALLS OF A WORLD, by the document. WHO IS ENABLED. -/
import Derived.Test.YtnncjbkepakgpaaGreatA35
namespace Go.Proofs.YtnncjbkepakgpaaGreat
open Go.RowKit Qv
set_option linter.unusedVariables false
set_option linter.unusedSimpArgs false
set_option maxRecDepth 100000
set_option maxHeartbeats 4000000
section
attribute[local go_sem high]ah
attribute[local simp high]ah
theorem ml{p:Prop}(h:PQ p:=by have HS1:=Lib.hid (Bx.mono hb (dY:Bx _ wr.heap.size [(107,37,D)]) ay);have U1:=Lib.hid (HU.out.trans ((Jf:ax r6 wr _).trans (ax.of_below hb)));have f1:=HR1.out;have g1:=HS1.out;exact pq (And.intro HS1 (And.intro U1 (And.intro f1 g1)))):p:=h
theorem vK{p:Prop}(h:p:=by
 refine(HEF.out _).mono ?_;rintro e w1⟨⟨be,rfl⟩,hb⟩;have HR1:=Lib.hid (Bx.mono hb (dY:Bx _ r6 [(81,27,#[who,nth,c0,c1,c2,c3,c4,c5,c6,c7,c8,c9,c10,c11,y0,y1,y2,y3,y4,y5,y6,y7,za,k,zc,I (wrap64 (zn+1)),zl])]) aF);obtain⟨HS1,U1,f1,g1⟩:=ml;simp only[Bx,Bo]at f1 g1;clear hb fR fB fX;cases be;·
  go_wp2_with fail;go_roundg gj;case measure=>omega
  case rel=>exact⟨i+1,za,zc,wrap64 (zn+1),zl,bD,aa,Lib.hid (dY:Bx _ r6 [(81,27,#[who,nth,c0,c1,c2,c3,c4,c5,c6,c7,c8,c9,c10,c11,y0,y1,y2,y3,y4,y5,y6,y7,za,k,zc,I (wrap64 (zn+1)),zl])]),Lib.hid (U1.out.trans Jf)⟩
 ·go_wp2_with fail;go_roundg gj;case measure=>omega
  case rel=>exact⟨i+1,za,i,wrap64 (zn+1),zl,bD,aa,Lib.hid (dY:Bx _ r6 [(81,27,#[who,nth,c0,c1,c2,c3,c4,c5,c6,c7,c8,c9,c10,c11,y0,y1,y2,y3,y4,y5,y6,y7,za,k,i,I (wrap64 (zn+1)),zl])]),Lib.hid (U1.out.trans Jf)⟩):p:=h
theorem vM{p:Prop}(h:p:=by
 refine(HEF.out _).mono ?_;rintro e w1⟨⟨be,rfl⟩,hb⟩;have HR1:=Lib.hid (Bx.mono hb (dY:Bx _ r6 [(81,27,#[who,nth,c0,c1,c2,c3,c4,c5,c6,c7,c8,c9,c10,c11,y0,y1,y2,y3,y4,y5,y6,y7,i,k,zc,I (wrap64 (zn+1)),zl])]) aF);obtain⟨HS1,U1,f1,g1⟩:=ml;simp only[Bx,Bo]at f1 g1;clear hb fR fB fX;cases be;·
  go_wp2_with fail;go_roundg gj;case measure=>omega
  case rel=>exact⟨i+1,i,zc,wrap64 (zn+1),zl,bD,aa,Lib.hid (dY:Bx _ r6 [(81,27,#[who,nth,c0,c1,c2,c3,c4,c5,c6,c7,c8,c9,c10,c11,y0,y1,y2,y3,y4,y5,y6,y7,i,k,zc,I (wrap64 (zn+1)),zl])]),Lib.hid (U1.out.trans Jf)⟩
 ·go_wp2_with fail;go_roundg gj;case measure=>omega
  case rel=>exact⟨i+1,i,i,wrap64 (zn+1),zl,bD,aa,Lib.hid (dY:Bx _ r6 [(81,27,#[who,nth,c0,c1,c2,c3,c4,c5,c6,c7,c8,c9,c10,c11,y0,y1,y2,y3,y4,y5,y6,y7,i,k,i,I (wrap64 (zn+1)),zl])]),Lib.hid (U1.out.trans Jf)⟩):p:=h
theorem Ha:(Tryz.prog.info? 81).map (·.size)=some 27:=af
theorem tZ:lj 81:=fun _ _ _ _ _ _ _=>rfl
theorem xi:lh 81 27:=l6 Ha Tryz.underlying81 rfl
theorem sd:ll 81:=fun _ _ _ _ _ _ _ _=>rfl
theorem ur:li 81 27:=mG Ha
attribute[go_sem↓]tZ sd
attribute[go_sem]xi ur
theorem Kd:(Tryz.prog.info? 81).map (fun i=>(i.zero,i.size,i.bytes))=some (some (.agg #[Z,Z,Z,F,U,U,Z,F,U,U,Z,Z,Z,F,Z,F,U,U,Z,Z,Z,V,Z,Z,Z,Z,Z]),27,232):=af
theorem O9{ops:Array Oper}{rest:List Oper}{o:Oper}{a:Act}{w:World}{Q:Exit→Act→World→Prop}(hgd:o.guard=none)(s x:Operand)(ho:o.op= .call {callee:=.builtin .append,args:=#[s,x],argTypes:=#[78,78]})(B:Nat)(v:Value)(L M:List (Array Value))(hs:a.eval s=v)(hown:aV w B 81 27 v L)(ad:Addr)(m k:Nat)(hx:a.eval x= .slice (some ad) m k)(hM:Sl w (E (some ad) m k) 27 M)(hlen:L.length+M.length≤200000)(hbase:B≤w.heap.size)(h:∀v' w',aV w' B 81 27 v' (L++M)→Below B w w'→(v'= .slice none 0 0↔v= .slice none 0 0∧M=[])→wpList Tryz.prog ops Q rest (a.put o.dst v') w'):wpList Tryz.prog ops Q (o::rest) a w:=by obtain⟨i0,hi,hz0,hz1,hz2⟩:=info_parts Kd;exact eK hgd s x 78 ho B 81 i0 (.agg #[Z,Z,Z,F,U,U,Z,F,U,U,Z,Z,Z,F,Z,F,U,U,Z,Z,Z,V,Z,Z,Z,Z,Z]) 27 232 Tryz.underlying78 hi hz0 hz1 hz2 rfl az v L M hs hown ad m k hx hM aa aa hbase h
attribute[local go_sem↓]eX eF ju iB dM dv dN dw
attribute[local go_sem]oN mV eA dO eB dP
theorem JL{C:Array Value}(hn:C.size=12)(h1:bB C=true):∃c0 c1 c2 c3 c4 c5 c6 c7 c8 c9 c10 c11:Value,C=#[c0,c1,c2,c3,c4,c5,c6,c7,c8,c9,c10,c11]∧c0.oneCell'=true∧c1.oneCell'=true∧c2.oneCell'=true∧c3.oneCell'=true∧c4.oneCell'=true∧c5.oneCell'=true∧c6.oneCell'=true∧c7.oneCell'=true∧c8.oneCell'=true∧c9.oneCell'=true∧c10.oneCell'=true∧c11.oneCell'=true:=by
 obtain⟨l⟩:=C;match l,hn with
  |[c0,c1,c2,c3,c4,c5,c6,c7,c8,c9,c10,c11],_=>simp only[bW,bi,bF,Bool.and_eq_true,and_true]at h1;exact⟨c0,c1,c2,c3,c4,c5,c6,c7,c8,c9,c10,c11,rfl,h1⟩
def Jj(x:Wo)(p:Nat×Nat)(row:Array Value):Prop:=∃t C,x.ts[p.1]? =some t∧t.rep[p.2]? =some C∧C.size=8∧∀(q:Nat)(v:Value),C[q]? =some v→row[14+q]? =some v
def xA(x:Wo)(l:List (Nat×Nat))(rows:List (Array Value)):Prop:=rows.length=l.length∧∀(i:Nat)(p:Nat×Nat)(row:Array Value),l[i]? =some p→rows[i]? =some row→Jj x p row
theorem xA.snoc{x:Wo}{l:List (Nat×Nat)}{rows:List (Array Value)}{p:Nat×Nat}{row:Array Value}(h:xA x l rows)(hr:Jj x p row):xA x (l++[p]) (rows++[row]):=by
 refine⟨by rw[List.length_append,List.length_append,h.1];rfl,fun i p' row' hp hw=>?_⟩;rw[List.getElem?_append]at hp hw;rw[h.1]at hw;split at hp;·rename_i hi;rw[if_pos hi]at hw;exact h.2 i p' row' hp hw
 ·rename_i hi;rw[if_neg hi]at hw;cases hq:i-l.length with
   |zero=>rw[hq]at hp hw;cases hp;cases hw;exact hr
   |succ m=>rw[hq]at hp;simp at hp
theorem Hf{lg:List (Nat×Nat×Bool)}{k:Nat}(hk:k<lg.length):df (lg.take (k+1))=if lg[k].2.2=true then df (lg.take k)++[(lg[k].1,lg[k].2.1)]else df (lg.take k):=by
 rw[List.take_succ_eq_append_getElem hk];rcases lg[k]with⟨a,b,c⟩;cases c;·rw[sM];rfl
 ·rw[pi];rfl
theorem Eu{lg:List (Nat×Nat×Bool)}{k:Nat}(hk:k<lg.length)(h:lg[k].2.2=true):(lg[k].1,lg[k].2.1)∈df lg:=by unfold df;rw[List.mem_filterMap];exact⟨lg[k],List.getElem_mem hk,by rw[if_pos h]⟩
theorem uZ(lg:List (Nat×Nat×Bool)):(df lg).length≤lg.length:=List.length_filterMap_le _ _
theorem EK(W:World)(e:TypeId)(n:Nat):aV (W.alloc (.cells #[] e)) W.heap.size e n (G W.heap.size 0 0) []:=⟨⟨jF,.inr ⟨W.heap.size,0,#[],rfl,Nat.le_refl _,(MapKept.heap_alloc W _).1,Nat.le_refl _,fZ,ay,jF⟩⟩,ay⟩
theorem Jf{p:Prop}(h:p:=by repeat'(first|exact ax.refl _ _|(with_reducible apply ax.drew)|(with_reducible refine ax.alloc ?_ _)|(with_reducible refine aP ?_ _)|assumption|exact ax.of_below et)):p:=h
theorem GV{P:Program}{c:Code}{Q:Exit→Act→World→Prop}{a:Act}{W:World}(Fx:World→Prop)(hF:Fx W)(h:∀W',Fx W'→Code.wp P c Q a W'):Code.wp P c Q a W:=h W hF
def Rx(C:Array Value)(who nth:Nat)(b:Bool):Prop:=C.size=37∧bB C=true∧C[0]? =some (.int .i64 who)∧C[1]? =some (.int .i64 nth)∧C[36]? =some (.bool b)∧∃(a n:Int)(m:Bool),C[2]? =some (.int .i64 a)∧C[22]? =some (.bool m)∧C[23]? =some (.int .i64 n)
theorem GS{R:Nat→Prop}{W:World}{a:Option Addr}{n q:Nat}{CG:List (Array Value)}{lg:List (Nat×Nat×Bool)}(h:Sl W (E a n q) 37 CG)(he:i5 (I9 R) W CG lg){k:Nat}(hk:k<lg.length):∃g o C,a=some ⟨g,o,none⟩∧g<W.heap.size∧(aR W ⟨g,o+k*37,none⟩ 37=true∧aO W ⟨g,o+k*37,none⟩ 37=C)∧Rx C lg[k].1 lg[k].2.1 lg[k].2.2:=by obtain⟨C,hC,h1,h2,h3,h4,h5⟩:=he.at (List.getElem?_eq_getElem hk);obtain⟨g,o,cap,e0,hg,e1,e2,e3,-⟩:=eC h hC;simp only[Value.slice.injEq]at e0;exact⟨g,o,C,e0.1,hg,⟨e1,e2⟩,h1,e3,h2,h3,h4,h5⟩
theorem AC(x:Wo)(hlg:x.lg.length≤3000)(hx:∀i n,(i,n)∈df x.lg→∃t,x.ts[i]? =some t∧n<t.nth∧t.rep.length=t.nth∧t.nth≤t.calls.length){R:Nat→Prop}(X:Array Value)(w:World)(h:nH R w X x):Calls Tryz.prog 13 #[.agg X] w fun e w'=>∃v rows,e= .returned v∧aV w' (w.heap.size+1) 81 27 v rows∧xA x (df x.lg) rows∧Below w.heap.size w w':=by
 obtain⟨k1,k2,k3,k4,k5,k6,k7,k8,k9,k10,k11,k12,k13,k14,k15,k16,a1,m1,q1,a2,m2,q2,a3,q3,a4,q4,aT,qT,aG,qG,hk,hko,rfl,hM,⟨CT,hTs,hT'⟩,⟨CG,hG,hG'⟩⟩:=h.open;have HG:=Lib.hid (And.intro hG.1 hG');have HTT:=Lib.hid (And.intro hTs.1 hT');have HX:=Lib.hid hx;have HL:=Lib.hid hlg;clear h hM hTs hT' hG hG' hk hx;go_enter Tryz.func13,Tryz.ntmps13;go_wp2_with fail;go_loopg[3,4]x.lg.length(fun g s3 s4 wr=>∃(k:Nat)(rows:List (Array Value)),s4= .int .i64 k∧k+g=x.lg.length∧Hid (xA x (df (x.lg.take k)) rows)∧Hid (aV wr (w.heap.size+1) 81 27 s3 rows)∧Hid (Bx wr w.heap.size [(51,24,#[k1,k2,k3,k4,k5,k6,k7,k8,k9,k10,k11,k12,k13,k14,k15,k16,x.m.inn,x.m.out,E a1 m1 q1,E a2 m2 q2,E a3 x.m.sh.length q3,E a4 x.m.lk.length q4,E aT x.ts.length qT,E aG x.lg.length qG])])∧Hid (Below w.heap.size w wr));case atStart=>exact⟨0,[],rfl,aa,Lib.hid ⟨rfl,fun i p row h=>by simp[df]at h⟩,Lib.hid (by have:=EK (w.alloc (.cells #[k1,k2,k3,k4,k5,k6,k7,k8,k9,k10,k11,k12,k13,k14,k15,k16,x.m.inn,x.m.out,E a1 m1 q1,E a2 m2 q2,E a3 x.m.sh.length q3,E a4 x.m.lk.length q4,E aT x.ts.length qT,E aG x.lg.length qG] 51)) 81 27;rw[World.size_alloc]at this;exact this),Lib.hid dY,Lib.hid bY⟩
 case round=>
  obtain⟨k,rows,rfl,hg,HR,HO,HB,HK⟩:=hrel;have sr:=HK.out.size;have fB:=HB.out;simp only[Bx,Bo]at fB;cases gk with
   |zero=>have hk:¬((k:Int)<(x.lg.length:Int)):=aa;have htk:x.lg.take k=x.lg:=List.take_of_length_le aa;rw[htk]at HR;go_wp2;go_ret;exact⟨_,rfl,rows,HO.out,HR.out,HK.out⟩
   |succ gk'=>
    have hk:(k:Int)<(x.lg.length:Int):=aa;have hk0:0≤(k:Int):=aa;have hk1:¬((k:Int)<0):=aa;have hkl:k<x.lg.length:=aa;obtain⟨gG,oG,C,rfl,hgG,hel,hst⟩:=GS HG.out.1 HG.out.2 hkl;have hla:=Lib.hid (Hf hkl);have hlm:=Lib.hid (fun h=>HX.out _ _ (Eu hkl h));generalize x.lg[k]=s at*;obtain⟨who,nth,b⟩:=s;have HE:=Lib.hid (show∀W,Below w.heap.size w W→aR W ⟨gG,oG+k*37,none⟩ 37=true∧aO W ⟨gG,oG+k*37,none⟩ 37=C from fun W kb=>bm hel (kb.block gG hgG));have hgr:gG<wr.heap.size:=aa;have hel':=HE.out wr HK.out;obtain⟨hC1,hC2,hC3,hC4,hC5,za,zn,zm,hC6,hC7,hC8⟩:=hst;obtain⟨l0,hC3⟩:=Array.getElem?_eq_some_iff.1 hC3;obtain⟨l1,hC4⟩:=Array.getElem?_eq_some_iff.1 hC4;obtain⟨l36,hC5⟩:=Array.getElem?_eq_some_iff.1 hC5;clear hel;cases b with
     |false=>
      go_wp2_with fail;go_roundg gk';case measure=>omega
      case rel=>exact⟨k+1,rows,bD,aa,Lib.hid (by rw[hla.out];exact HR.out),Lib.hid (HO.out.below cb),Lib.hid (Bx.mono (cb:Below wr.heap.size wr _) HB.out aF),Lib.hid (HK.out.trans ((cb:Below wr.heap.size wr _).mono sr))⟩
     |true=>
      obtain⟨t,ht,hn1,hn2,hn3⟩:∃t,x.ts[who]? =some t∧nth<t.nth∧t.rep.length=t.nth∧t.nth≤t.calls.length:=hlm.out rfl;obtain⟨CTk,hCT,vc,vg,vr,rfl,hvc,-,hvr⟩:=HTT.out.2.at ht;obtain⟨gT,oT,qT',e0,hgT,eT1,eT2,-⟩:=eC HTT.out.1 hCT;simp only[Value.slice.injEq]at e0;obtain⟨rfl,-,rfl⟩:=e0;have hnc:nth<t.calls.length:=aa;have hnr:nth<t.rep.length:=aa;obtain⟨gc,oc,qc,rfl,hgc,ec1,ec2,ec3,ec4⟩:=eC hvc.1 (List.getElem?_eq_getElem hnc);obtain⟨gr,orr,qr,rfl,hgr',er1,er2,er3,er4⟩:=eC hvr.1 (List.getElem?_eq_getElem hnr);have hwt:who<x.ts.length:=(List.getElem?_eq_some_iff.1 ht).1;have hrep:=List.getElem?_eq_getElem hnr;obtain⟨c0,c1,c2,c3,c4,c5,c6,c7,c8,c9,c10,c11,hcc,hco⟩:=JL ec4 ec3;obtain⟨y0,y1,y2,y3,y4,y5,y6,y7,hrc,hro⟩:=Gb er4 er3;rw[hcc]at ec2;rw[hrc]at er2 hrep;have hrow:=Lib.hid (show∀a b c d e:Int,Jj x (who,nth) #[who,nth,c0,c1,c2,c3,c4,c5,c6,c7,c8,c9,c10,c11,y0,y1,y2,y3,y4,y5,y6,y7,a,b,c,d,e]from fun a b c d e=>⟨t,_,ht,hrep,rfl,fun q v hv=>by
       match q,hv with
        |0,h=>exact h
        |1,h=>exact h
        |2,h=>exact h
        |3,h=>exact h
        |4,h=>exact h
        |5,h=>exact h
        |6,h=>exact h
        |7,h=>exact h⟩);have HT:=Lib.hid (show∀W,Below w.heap.size w W→(W.cell? ⟨gT,oT+who*5,none⟩=some (.slice (some ⟨gc,oc,none⟩) t.calls.length qc)∧W.cell? ⟨gT,oT+who*5+3,none⟩=some (.slice (some ⟨gr,orr,none⟩) t.rep.length qr))∧(aR W ⟨gc,oc+nth*12,none⟩ 12=true∧aO W ⟨gc,oc+nth*12,none⟩ 12=#[c0,c1,c2,c3,c4,c5,c6,c7,c8,c9,c10,c11])∧aR W ⟨gr,orr+nth*8,none⟩ 8=true∧aO W ⟨gr,orr+nth*8,none⟩ 8=#[y0,y1,y2,y3,y4,y5,y6,y7]from fun W kb=>by obtain⟨k1,k2⟩:=bm ⟨eT1,eT2⟩ (kb.block gT hgT);have a0:=iV k1 (show 0<5 by omega);have a3:=iV k1 (show 3<5 by omega);rw[k2]at a0 a3;refine⟨⟨by simpa[cF]using a0,by simpa[cF]using a3⟩,bm ⟨ec1,ec2⟩ (kb.block gc hgc),bm ⟨er1,er2⟩ (kb.block gr hgr')⟩);have nn1:(who:Int)<(x.ts.length:Int):=aa;have nn2:(nth:Int)<(t.calls.length:Int):=aa;have nn3:(nth:Int)<(t.rep.length:Int):=aa;have nn4:0≤(who:Int):=aa;have nn5:0≤(nth:Int):=aa;clear hvc hvr eT1 eT2 ec1 ec2 ec3 ec4 er1 er2 er3 er4 hrc hcc hlm hrep hCT ht;go_wp2_with fail;have HB5:=Lib.hid (dY:Bx (wr.alloc (.cells C 107)) wr.heap.size [(107,37,C)]);have HX5:=Lib.hid (Bx.mono (cb:Below wr.heap.size wr (wr.alloc (.cells C 107))) HB.out aF);have HO5:=Lib.hid (HO.out.below (cb:Below wr.heap.size wr (wr.alloc (.cells C 107))));have d5:Below w.heap.size w (wr.alloc (.cells C 107)):=HK.out.trans ((cb:Below wr.heap.size wr (wr.alloc (.cells C 107))).mono sr);have s5:wr.heap.size<(wr.alloc (.cells C 107)).heap.size:=ay;clear HB HO HK fB hel';generalize(wr.alloc (.cells C 107))=W5 at*;generalize wr.heap.size=r5 at*;have f5:=HB5.out;have g5:=HX5.out;simp only[Bx,Bo]at f5 g5;have HF:=Lib.hid (fun(W:World)(hS:(aw W5) W)=>And.intro (Bx.mono hS.out HB5.out aF) (And.intro (Bx.mono hS.out HX5.out aF) (HT.out W (d5.trans (hS.out.mono d5.size)))));refine cQ (aw W5) [0,1,2,3,4,5,6,7,8,9,10,11,12,13,14,15,16,17,18,19,20,21,22,23,24,25,26,27] 2 ?_;iterate 28 refine pO ?_
      refine pE ?_;refine bl 28 ?_;simp only[PL];go_wp2;refine ba ?_;refine bl 29 ?_;simp only[PL];go_wp2;refine ba ?_;refine cU ?_;go_wp2_with fail;refine GV (fun W=>Bx W W5.heap.size [(81,27,#[who,nth,c0,c1,c2,c3,c4,c5,c6,c7,c8,c9,c10,c11,y0,y1,y2,y3,y4,y5,y6,y7,I (-1),k,I (-1),Z,Z])]∧Below W5.heap.size W5 W∧W5.heap.size<W.heap.size) ⟨dY,cb,ay⟩ ?_;rintro W7⟨hR7,hk7,s7⟩;have HB7:=cD hk7 HB5;have HX7:=cD hk7 HX5;have HO7:=Lib.hid (fun W(u:ax W5.heap.size W7 W)=>(HO5.out.below hk7).same fun q hq hl=>u.block q hl (by have:=(HO5.out.base hq).2;omega));have d7:=d5.trans (hk7.mono d5.size);have HR7:=Lib.hid hR7;have s57:r5<W5.heap.size:=s5;have sw5:w.heap.size<W5.heap.size:=HX5.out.1.2.2.2.1;clear hR7 f5 g5 HB5 HX5 HO5 s5 HF;generalize W5.heap.size=r6 at*;go_loopg[7](k+1)(fun g s7 wr=>∃(i:Nat)(za zc zn zl:Int),s7= .int .i64 i∧i+g=k+1∧Hid (Bx wr r6 [(81,27,#[who,nth,c0,c1,c2,c3,c4,c5,c6,c7,c8,c9,c10,c11,y0,y1,y2,y3,y4,y5,y6,y7,za,k,zc,zn,zl])])∧Hid (ax r6 W7 wr));case atStart=>exact⟨0,-1,-1,0,0,rfl,aa,HR7,Lib.hid (ax.refl _ _)⟩
      case round=>
       clear sr;obtain⟨i,za,zc,zn,zl,rfl,hgi,HRi,HU⟩:=hrel;have du:=d7.trans (HU.out.below aa d7.size);have su:=HU.out.size;have fR:=HRi.out;have fB:=Bx.upto HU.out HB7.out (.inr aF);have HXr:=Lib.hid (Bx.upto HU.out HX7.out (.inr aF));have fX:=HXr.out;simp only[Bx,Bo]at fR fB fX;cases gk with
        |zero=>
         have hik:¬((i:Int)≤(k:Int)):=aa;go_wp2_with(at_builtin;refine O9 rfl (.tmp 102) (.tmp 104) rfl (w.heap.size+1) _ rows [#[who,nth,c0,c1,c2,c3,c4,c5,c6,c7,c8,c9,c10,c11,y0,y1,y2,y3,y4,y5,y6,y7,za,k,zc,zn,zl]] rfl ((HO7.out _ HU.out).below ((Below.refl wr.heap.size wr).alloc (Nat.le_refl _) (.cells #[who,nth,c0,c1,c2,c3,c4,c5,c6,c7,c8,c9,c10,c11,y0,y1,y2,y3,y4,y5,y6,y7,za,k,zc,zn,zl] 81))) _ _ _ rfl (cY wr #[who,nth,c0,c1,c2,c3,c4,c5,c6,c7,c8,c9,c10,c11,y0,y1,y2,y3,y4,y5,y6,y7,za,k,zc,zn,zl] 81 27 _ rfl rfl (by simp only[bW,bi,bF,hco,hro,ky,Bool.and_self])) (by have h1:=HR.out.1;have h2:=uZ (x.lg.take k);have h3:=HL.out;rw[List.length_take]at h2;simp only[List.length_singleton];omega) ix ?_;intro v9 w9 hown hbel hnil);go_roundg gk';case measure=>omega
         case rel=>exact⟨k+1,_,bD,aa,Lib.hid (by rw[hla.out];exact HR.out.snoc (hrow.out za k zc zn zl)),Lib.hid hown,Lib.hid (Bx.mono hbel (Bx.mono (cb:Below wr.heap.size wr _) HXr.out aF) ay),Lib.hid ((du.trans ((cb:Below wr.heap.size wr _).mono du.size)).trans (hbel.mono aa))⟩
        |succ gj=>
         have hik:(i:Int)≤(k:Int):=aa;have hi0:0≤(i:Int):=aa;have hi1:¬((i:Int)<0):=aa;have hil:i<x.lg.length:=aa;have hil':(i:Int)<(x.lg.length:Int):=aa;obtain⟨gG',oG',D,e0,hgG',helD,hst'⟩:=GS HG.out.1 HG.out.2 hil;simp only[Option.some.injEq,Addr.mk.injEq]at e0;obtain⟨rfl,rfl,-⟩:=e0;generalize x.lg[i]=s at*;obtain⟨who',nth',b'⟩:=s;obtain⟨hD1,hD2,hD3,hD4,hD5,kd,nn,zm',hD6,hD7,hD8⟩:=hst';have HEF:=Lib.hid (Nk D hD1 hD2 kd nn zm' hD6 hD7 hD8);obtain⟨l0',hD3⟩:=Array.getElem?_eq_some_iff.1 hD3;obtain⟨l1',hD4⟩:=Array.getElem?_eq_some_iff.1 hD4;obtain⟨l2',hD6⟩:=Array.getElem?_eq_some_iff.1 hD6;obtain⟨l23',hD8⟩:=Array.getElem?_eq_some_iff.1 hD8;have helD:=bm helD (du.block gG hgG);have hgu:gG<wr.heap.size:=aa;clear hD5 hD7;by_cases hs:(who':Int)=who∧(nth':Int)=nth;rotate_left 1;·
          have hs':((who':Int)!=who)=true∨((who':Int)!=who)=false∧((nth':Int)!=nth)=true:=by
           by_cases h1:(who':Int)=who;·exact .inr ⟨by simp[h1],by have:¬((nth':Int)=nth):=fun h2=>hs ⟨h1,h2⟩;simp[this]⟩
           ·exact .inl (by simp[h1])
          clear hs;rcases hs' with h1|⟨h1,h2⟩;all_goals
           go_wp2_with fail;go_roundg gj;case measure=>omega
           case rel=>exact⟨i+1,za,zc,zn,zl,bD,aa,Lib.hid (dY:Bx _ r6 [(81,27,#[who,nth,c0,c1,c2,c3,c4,c5,c6,c7,c8,c9,c10,c11,y0,y1,y2,y3,y4,y5,y6,y7,za,k,zc,zn,zl])]),Lib.hid (HU.out.trans Jf)⟩
         obtain⟨h1,h2⟩:=hs;have h1':((who':Int)!=who)=false:=by simp[h1]
         have h2':((nth':Int)!=nth)=false:=by simp[h2]
         clear h1 h2;have ne1:¬(r6=wr.heap.size):=by have:=HR7.out.1.2.2.2.1;omega
         have ne2:¬(wr.heap.size=r6):=fun e=>ne1 e.symm;have hq:(kd==7)=false∨(kd==7)=true∧(nn !=1)=false∨(kd==7)=true∧(nn !=1)=true:=by cases(kd==7)<;>cases(nn !=1)<;>simp
         rcases Classical.em (za<0)with ha|ha;·
          rcases hq with hq|⟨hq,hn⟩|⟨hq,hn⟩;·go_wp2_with fail;exact vM
          ·go_wp2_with fail;exact vM
          ·go_wp2_with fail;refine(HEF.out _).mono ?_;rintro e w1⟨⟨be,rfl⟩,hb⟩;have HR1:=Lib.hid (Bx.mono hb (dY:Bx _ r6 [(81,27,#[who,nth,c0,c1,c2,c3,c4,c5,c6,c7,c8,c9,c10,c11,y0,y1,y2,y3,y4,y5,y6,y7,i,k,zc,I (wrap64 (zn+1)),zl])]) aF);obtain⟨HS1,U1,f1,g1⟩:=ml;simp only[Bx,Bo]at f1 g1;clear hb fR fB fX;cases be;·
            go_wp2_with fail;go_roundg gj;case measure=>omega
            case rel=>exact⟨i+1,i,zc,wrap64 (zn+1),wrap64 (zl+1),bD,aa,Lib.hid (dY:Bx _ r6 [(81,27,#[who,nth,c0,c1,c2,c3,c4,c5,c6,c7,c8,c9,c10,c11,y0,y1,y2,y3,y4,y5,y6,y7,i,k,zc,I (wrap64 (zn+1)),I (wrap64 (zl+1))])]),Lib.hid (U1.out.trans Jf)⟩
           ·go_wp2_with fail;go_roundg gj;case measure=>omega
            case rel=>exact⟨i+1,i,i,wrap64 (zn+1),wrap64 (zl+1),bD,aa,Lib.hid (dY:Bx _ r6 [(81,27,#[who,nth,c0,c1,c2,c3,c4,c5,c6,c7,c8,c9,c10,c11,y0,y1,y2,y3,y4,y5,y6,y7,i,k,i,I (wrap64 (zn+1)),I (wrap64 (zl+1))])]),Lib.hid (U1.out.trans Jf)⟩
         ·rcases hq with hq|⟨hq,hn⟩|⟨hq,hn⟩;·go_wp2_with fail;exact vK
          ·go_wp2_with fail;exact vK
          ·go_wp2_with fail;refine(HEF.out _).mono ?_;rintro e w1⟨⟨be,rfl⟩,hb⟩;have HR1:=Lib.hid (Bx.mono hb (dY:Bx _ r6 [(81,27,#[who,nth,c0,c1,c2,c3,c4,c5,c6,c7,c8,c9,c10,c11,y0,y1,y2,y3,y4,y5,y6,y7,za,k,zc,I (wrap64 (zn+1)),zl])]) aF);obtain⟨HS1,U1,f1,g1⟩:=ml;simp only[Bx,Bo]at f1 g1;clear hb fR fB fX;cases be;·
            go_wp2_with fail;go_roundg gj;case measure=>omega
            case rel=>exact⟨i+1,za,zc,wrap64 (zn+1),wrap64 (zl+1),bD,aa,Lib.hid (dY:Bx _ r6 [(81,27,#[who,nth,c0,c1,c2,c3,c4,c5,c6,c7,c8,c9,c10,c11,y0,y1,y2,y3,y4,y5,y6,y7,za,k,zc,I (wrap64 (zn+1)),I (wrap64 (zl+1))])]),Lib.hid (U1.out.trans Jf)⟩
           ·go_wp2_with fail;go_roundg gj;case measure=>omega
            case rel=>exact⟨i+1,za,i,wrap64 (zn+1),wrap64 (zl+1),bD,aa,Lib.hid (dY:Bx _ r6 [(81,27,#[who,nth,c0,c1,c2,c3,c4,c5,c6,c7,c8,c9,c10,c11,y0,y1,y2,y3,y4,y5,y6,y7,za,k,i,I (wrap64 (zn+1)),I (wrap64 (zl+1))])]),Lib.hid (U1.out.trans Jf)⟩
end
def BK(S:Nat)(x:Wo)(tu:Nat→Option Oq)(i:Nat)(t:Tk):Prop:=(tu i=none∧t.calls.length≤t.nth)∨∃o,tu i=some o∧t.nth<t.calls.length∧eJ x.K t (.op o)∧E9 S o
def Hz(x:Wo)(tu:Nat→Option Oq)(i:Nat):Bool:=match tu i with
 |some o=>ia o (x.m.lk.getD o.lk.toNat (0,[]))
 |none=>false
def ef(x:Wo)(tu:Nat→Option Oq)(k:Nat):List Nat:=(List.range k).filter (Hz x tu)
theorem EH(x:Wo)(tu:Nat→Option Oq)(k:Nat):ef x tu (k+1)=ef x tu k++(if Hz x tu k=true then[k]else[]):=by unfold ef;rw[List.range_succ,List.filter_append];simp[List.filter_cons]
theorem yK(x:Wo)(tu:Nat→Option Oq)(k:Nat):(ef x tu k).length≤k:=Nat.le_trans (List.length_filter_le _ _) ay
theorem OG(S:Nat)(h0:1≤S)(h1:S≤8)(x:Wo)(hm:Fb S x.m)(tu:Nat→Option Oq)(who:Nat)(t:Tk)(ht:x.ts[who]? =some t)(hf:BK S x tu who t){R:Nat→Prop}(X:Array Value)(w:World)(h:nH R w X x):Calls Tryz.prog 51 #[.agg X,who] w fun e w'=>∃CO,e= .returned (.tuple #[.agg CO,.bool (Hz x tu who)])∧CO.size=21∧bB CO=true∧(∀o,tu who=some o→xq (Rn R w.heap.size) w' CO o)∧Below w.heap.size w w':=by
 rcases hf with⟨hn,ho⟩|⟨o,hn,hl,HT,hF⟩;·refine(BJ x who t ht ho X w h).mono ?_;rintro e w'⟨rfl,hb⟩;exact⟨_,by unfold Hz;rw[hn],rfl,rfl,(fun o e=>by rw[hn]at e;cases e),hb⟩
 ·refine(Mw S h0 h1 x hm who t ht hl o HT hF X w h).mono ?_;rintro e w'⟨CO,rfl,hO,hb⟩;exact⟨CO,by unfold Hz;rw[hn],hO.size,hO.ones,(fun o' e=>by rw[hn]at e;cases e;exact hO),hb⟩
theorem GW(S:Nat)(h0:1≤S)(h1:S≤8)(x:Wo)(hm:Fb S x.m)(tu:Nat→Option Oq)(hf:∀i t,x.ts[i]? =some t→BK S x tu i t)(htl:x.ts.length≤100){R:Nat→Prop}(X:Array Value)(w:World)(h:nH R w X x):Calls Tryz.prog 22 #[.agg X] w fun e w'=>∃v,e= .returned v∧aV w' w.heap.size 3 1 v ((ef x tu x.ts.length).map qE)∧Below w.heap.size w w':=by
 have HN:=Lib.hid (fun(who:Nat)(hw:who<x.ts.length)(W:World)(b:Below w.heap.size w W)=>OG S h0 h1 x hm tu who _ (List.getElem?_eq_getElem hw) (hf who _ (List.getElem?_eq_getElem hw)) X W (dd h (Kp.below b) fun _ h=>h));obtain⟨k1,k2,k3,k4,k5,k6,k7,k8,k9,k10,k11,k12,k13,k14,k15,k16,a1,m1,c1,a2,m2,c2,a3,c3,a4,c4,aT,cT,aG,cG,hk,hko,rfl,hM,hT,hG⟩:=h.open;have HLe:=Lib.hid (yK x tu);have HSu:=Lib.hid (EH x tu);clear hf hm h hM hT hG hk;go_enter Tryz.func22,Tryz.ntmps22;go_wp2_with fail;have HB:=Lib.hid (dY:Bx (w.alloc (.cells #[k1,k2,k3,k4,k5,k6,k7,k8,k9,k10,k11,k12,k13,k14,k15,k16,x.m.inn,x.m.out,E a1 m1 c1,E a2 m2 c2,E a3 x.m.sh.length c3,E a4 x.m.lk.length c4,E aT x.ts.length cT,E aG x.lg.length cG] 51)) w.heap.size [(51,24,#[k1,k2,k3,k4,k5,k6,k7,k8,k9,k10,k11,k12,k13,k14,k15,k16,x.m.inn,x.m.out,E a1 m1 c1,E a2 m2 c2,E a3 x.m.sh.length c3,E a4 x.m.lk.length c4,E aT x.ts.length cT,E aG x.lg.length cG])]);have bw:Below w.heap.size w (w.alloc (.cells #[k1,k2,k3,k4,k5,k6,k7,k8,k9,k10,k11,k12,k13,k14,k15,k16,x.m.inn,x.m.out,E a1 m1 c1,E a2 m2 c2,E a3 x.m.sh.length c3,E a4 x.m.lk.length c4,E aT x.ts.length cT,E aG x.lg.length cG] 51)):=bY;have sW:w.heap.size+1≤(w.alloc (.cells #[k1,k2,k3,k4,k5,k6,k7,k8,k9,k10,k11,k12,k13,k14,k15,k16,x.m.inn,x.m.out,E a1 m1 c1,E a2 m2 c2,E a3 x.m.sh.length c3,E a4 x.m.lk.length c4,E aT x.ts.length cT,E aG x.lg.length cG] 51)).heap.size:=ay;generalize(w.alloc (.cells #[k1,k2,k3,k4,k5,k6,k7,k8,k9,k10,k11,k12,k13,k14,k15,k16,x.m.inn,x.m.out,E a1 m1 c1,E a2 m2 c2,E a3 x.m.sh.length c3,E a4 x.m.lk.length c4,E aT x.ts.length cT,E aG x.lg.length cG] 51))=W0 at*;generalize hnT:x.ts.length=T at*;go_loopg[3,10]T(fun g s3 s10 wr=>∃k:Nat,s10= .int .i64 k∧k+g=T∧Hid (aV wr W0.heap.size 3 1 s3 ((ef x tu k).map qE)∧Below W0.heap.size W0 wr));case atStart=>exact⟨0,rfl,aa,Lib.hid ⟨aV.nil _ _ _ _,Below.refl _ _⟩⟩
 case round=>
  obtain⟨k,rfl,hg,HH⟩:=hrel;obtain⟨hO,hB⟩:=HH.out;have HO:=Lib.hid hO;have hk0:=aw.mk hB;have hws:=hB.size;cases gk with
   |zero=>have hk:¬((k:Int)<(T:Int)):=aa;obtain rfl:k=T:=aa;clear hO hB HH;go_wp2;refine bodyPost_ret (results_tmp rfl _ _ _) rfl ?_;exact⟨_,rfl,HO.out.weaken aa,bw.trans (hk0.out.mono aa)⟩
   |succ m=>
    have hk:k<T:=aa;have hkz:(k:Int)<(T:Int):=aa;have HLn:=Lib.hid (HLe.out k);have HSk:=Lib.hid (HSu.out k);have fB:=Bx.mono hB HB.out aF;simp only[Bx,Bo]at fB;clear hO hB HH;go_wp2_with fail;refine(HN.out k aa wr (bw.trans (hk0.out.mono aa))).mono ?_;rintro e w2⟨O,rfl,o1,o2,-,hb⟩;have hk2:=aw.mk hb;have hs2:=hb.size;have HO1:=HO.out.below hb;have HO2:=Lib.hid (HO1.below ((Below.refl w2.heap.size w2).alloc (Nat.le_refl _) (.cells O 105)));have fB2:=Bx.mono (hk0.out.trans (hb.mono hws)) HB.out aF;simp only[Bx,Bo]at fB2;clear hb HO1 fB;cases hen:Hz x tu k with
     |false=>
      rw[hen]at HSk;go_wp2;go_roundg m;case measure=>omega
      case rel=>exact⟨k+1,ay,aa,Lib.hid ⟨by rw[HSk.out];simpa using HO2.out,hk0.out.trans ((hk2.out.mono hws).alloc aa _)⟩⟩
     |true=>
      rw[hen]at HSk;have HO3:=Lib.hid (HO2.out.below ((Below.refl _ _).alloc (Nat.le_refl _) (.cells #[I (k:Int)] 3)));go_wp2_with(at_builtin;refine Jn rfl (.tmp 20) (.tmp 22) rfl W0.heap.size _ _ [#[k]] rfl HO3.out _ _ _ rfl (cY _ #[k] 3 1 _ ay rfl rfl) (by have:=HLn.out;simp;omega) aF ?_;intro v' w3 hown hbel hnil;have HWN:=Lib.hid (And.intro hown hbel);clear hown hbel hnil);go_roundg m;case measure=>omega
      case rel=>exact⟨k+1,ay,aa,Lib.hid ⟨by rw[HSk.out];simpa[qE]using HWN.out.1,hk0.out.trans ((((hk2.out.mono hws).alloc aa _).alloc aF _).trans (HWN.out.2))⟩⟩
end Go.Proofs.YtnncjbkepakgpaaGreat
