/- GROUPS THAT ARE TAKEN. COUNTS AND INDICES. THE DOCUMENT's ANSWERS: addresses, ends, entries, peers. THE DOCUMENT's ORDERS. -/
import Derived.Test.YtnncjbkepakgpaaGreatA26
namespace Go.Proofs.YtnncjbkepakgpaaGreat
open Go.RowKit Qv
set_option linter.unusedVariables false
set_option linter.unusedSimpArgs false
set_option maxRecDepth 100000
set_option maxHeartbeats 2000000
section
attribute[local go_sem high]ah
attribute[local simp high]ah
attribute[local go_sem↓]aZ aW
theorem DB{p:Prop}(h:p:=by
 go_wp2_with fail;go_roundg gk';case measure=>omega
 case rel=>exact⟨k+1,acc,ay,aa,Lib.hid (by have:=hd.out;simpa using this),Lib.hid (HO.out.below cb),Lib.hid (HK.out.trans ((cb:Below wr.heap.size wr _).mono aa))⟩):p:=h
theorem Bf(a:Option Addr)(cap:Nat)(w:World):Calls Tryz.prog 326 #[E a 0 cap,.func (.func 73) #[] #[]] w fun e w'=>e= .returned (.tuple #[])∧w=w':=by
 have H340:∀w,Calls Tryz.prog 340 #[E a 0 cap,Z,Z,.func (.func 73) #[] #[]] w fun e w'=>e= .returned (.tuple #[])∧w=w':=fun w=>by
  go_enter Tryz.func340,Tryz.ntmps340;go_wp2;go_loopg[8]0(fun gk s8 wr=>s8= .int .i64 1∧w=wr);case atStart=>exact⟨rfl,rfl⟩
  case round=>obtain⟨rfl,rfl⟩:=hrel;go_wp2;exact bodyPost_end (results_none rfl _ _ _) rfl ⟨rfl,rfl⟩
 have H336:∀w,Calls Tryz.prog 336 #[U] w fun e w'=>e= .returned Z∧w'=w:=fun w=>by have h:=Any.bits_Len (SlLaysF0.n15.bits (P:=Tryz.prog) (ρ:=P9) {C5 with}) 0 w aa aa;exact h
 have H335:∀w,Calls Tryz.prog 335 #[E a 0 cap,Z,Z,Z,.func (.func 73) #[] #[]] w fun e w'=>e= .returned (.tuple #[])∧w=w':=fun w=>by
  go_enter Tryz.func335,Tryz.ntmps335;go_wp2_with fail;go_loopg[1,2,3,10,11]0(fun gk s1 s2 s3 s10 s11 wr=>s1= .int .i64 0∧s2= .int .i64 0∧s3= .int .i64 0∧s10= .bool true∧s11= .bool true∧w=wr);case atStart=>exact⟨rfl,rfl,rfl,rfl,rfl,rfl⟩
  case round=>obtain⟨rfl,rfl,rfl,rfl,rfl,rfl⟩:=hrel;go_wp2_with(go_at_call 340;refine(H340 _).mono ?_;rintro e w1⟨rfl,rfl⟩);exact bodyPost_ret (results_none rfl _ _ _) rfl ⟨rfl,rfl⟩
 go_enter Tryz.func326,Tryz.ntmps326;go_wp2_with(first|(go_at_call 336;refine(H336 _).mono ?_;rintro e w1⟨rfl,rfl⟩)|(go_at_call 335;refine(H335 _).mono ?_;rintro e w1⟨rfl,rfl⟩));exact bodyPost_end (results_none rfl _ _ _) rfl ⟨rfl,rfl⟩
theorem Hu(B:Nat)(a:Option Addr)(cap:Nat)(L:List Nt)(w:World)(h:aV w B 39 4 (E a L.length cap) (L.map mQ))(hl:L.length≤100000):Calls Tryz.prog 326 #[E a L.length cap,.func (.func 73) #[] #[]] w fun e w'=>e= .returned (.tuple #[])∧∃D:List Nt,D.length=L.length∧(∀x,x∈D↔x∈L)∧aV w' B 39 4 (E a L.length cap) (D.map mQ)∧Below B w w':=by
 cases L with
  |nil=>refine(Bf a cap w).mono ?_;rintro e w'⟨rfl,rfl⟩;exact⟨rfl,[],rfl,fun _=>Iff.rfl,h,Below.refl _ _⟩
  |cons x L=>obtain⟨g,rfl,-⟩:=gw nw h (show(x::L)[0]? =some x from rfl);exact Bg B g _ cap (x::L) w h hl
def gA(e:Ed):Nt:=if ir e.six e.hi e.lo=true then⟨e.six,pm e.six e.hi (if e.six=true then 32 else 16:Int),nJ e.six e.lo (if e.six=true then 32 else 16:Int),if e.six=true then 32 else 16⟩else⟨false,0,0,0⟩
theorem A2(e:Ed)(hl:U6 e.lo)(w:World):Calls Tryz.prog 305 #[.agg #[e.six,J e.hi,J e.lo]] w fun r w'=>r= .returned (.agg #[.bool (gA e).s,J (gA e).h,J (gA e).l,I (gA e).b])∧Below w.heap.size w w':=by
 have h:=NF e.six e.hi e.lo hl w;have he:yu e.six e.hi e.lo=(#[.bool (gA e).s,J (gA e).h,J (gA e).l,I (gA e).b]:AV):=by unfold yu gA;split<;>rfl
 rw[he]at h;exact h
def BB(P:List Pe):List Nt:=(P.filter fun y=> !y.i).map fun y=>gA y.e
def E2(L:List En):List Nt:=(L.filter fun y=>decide (y.s=2)).map fun y=>gA y.e
theorem IW(y:Pe)(P:List Pe):BB (y::P)=(if(!y.i)=true then[gA y.e]else[])++BB P:=by unfold BB;rw[List.filter_cons];split<;>rfl
theorem IV(y:En)(L:List En):E2 (y::L)=(if decide (y.s=2)=true then[gA y.e]else[])++E2 L:=by unfold E2;rw[List.filter_cons];split<;>rfl
theorem Dx(P:List Pe):(BB P).length≤P.length:=by unfold BB;rw[List.length_map];exact List.length_filter_le _ _
theorem Lw(L:List En):(E2 L).length≤L.length:=by unfold E2;rw[List.length_map];exact List.length_filter_le _ _
theorem IS(P:List Pe)(hP:∀y∈P,xz y)(L:List En)(hL:∀y∈L,lf y)(hl:P.length≤40000)(hl2:L.length≤40000)(v u:Value)(w:World)(hv:Sl w v 10 (P.map eT))(hu:Sl w u 7 (L.map bh)):Calls Tryz.prog 309 #[v,u] w fun r w'=>∃(v':Value)(D:List Nt),r= .returned v'∧D.length≤80000∧(∀x,x∈D↔x∈BB P++E2 L)∧aV w' w.heap.size 39 4 v' (D.map mQ)∧Below w.heap.size w w':=by
 have HV:=Lib.hid hv;have HU:=Lib.hid hu;have HP:=Lib.hid hP;have HL:=Lib.hid hL;obtain⟨av,cv,rfl,-⟩:=id hv;obtain⟨au,cu,rfl,-⟩:=id hu;rw[List.length_map,List.length_map];obtain⟨n,hn⟩:∃n,n=P.length:=⟨_,rfl⟩;obtain⟨m,hm⟩:∃m,m=L.length:=⟨_,rfl⟩;rw[←hn]at hl⊢;rw[←hm]at hl2⊢;replace hn:=Lib.hid hn;replace hm:=Lib.hid hm;clear hv hu hP hL;go_enter Tryz.func309,Tryz.ntmps309;go_wp2_with fail;go_loopg[5,12]n(fun g s5 s12 wr=>∃(k:Nat)(acc:List Nt),s12= .int .i64 k∧k+g=n∧Hid (acc++BB (P.drop k)=BB P)∧Hid (aV wr w.heap.size 39 4 s5 (acc.map mQ))∧Hid (Below w.heap.size w wr));case atStart=>exact⟨0,[],rfl,aa,Lib.hid rfl,Lib.hid (aV.nil _ _ _ _),Lib.hid (Below.refl _ _)⟩
 case round=>
  obtain⟨k,acc,rfl,hg,he,HO,HK⟩:=hrel;have sr:=HK.out.size;have hal:acc.length≤n:=by have h1:=congrArg List.length he.out;rw[List.length_append]at h1;have h2:=Dx P;rw[hn.out];omega
  cases gk with
   |zero=>
    have hk:¬((k:Int)<(n:Int)):=aa;have hE:acc=BB P:=by rw[←he.out,List.drop_eq_nil_of_le ig];simp[BB]
    replace hE:=Lib.hid hE;clear he;go_wp2_with fail;go_loopg[5,29]m(fun g s5 s29 wr=>∃(k:Nat)(acc:List Nt),s29= .int .i64 k∧k+g=m∧Hid (acc++E2 (L.drop k)=BB P++E2 L)∧Hid (aV wr w.heap.size 39 4 s5 (acc.map mQ))∧Hid (Below w.heap.size w wr));case atStart=>exact⟨0,acc,rfl,aa,Lib.hid (by rw[←hE.out];rfl),HO,HK⟩
    case round=>
     clear hE HO HK hal hg hk sr;obtain⟨k,acc,rfl,hg,he,HO,HK⟩:=hrel;have sr:=HK.out.size;have hal:acc.length≤80000:=by have h1:=congrArg List.length he.out;rw[List.length_append,List.length_append]at h1;have h2:=Dx P;have h3:=Lw L;have h4:=hn.out;have h5:=hm.out;omega
     cases gk with
      |zero=>
       have hk:¬((k:Int)<(m:Int)):=aa;have hE:acc=BB P++E2 L:=by rw[←he.out,List.drop_eq_nil_of_le (by rw[←hm.out];omega)];simp[E2]
       replace hE:=Lib.hid hE;clear he;obtain⟨a5,c5,rfl,-⟩:=id HO.out.sl;rw[List.length_map]at HO⊢;obtain⟨q,hq⟩:∃q,q=acc.length:=⟨_,rfl⟩;rw[←hq]at HO hal⊢;replace hq:=Lib.hid hq;go_wp2_with fail;refine(by have:=Hu w.heap.size a5 c5 acc wr (by rw[←hq.out];exact HO.out) (by rw[←hq.out];omega);rw[←hq.out]at this;exact this:Calls Tryz.prog 326 #[E a5 q c5,.func (.func 73) #[] #[]] wr fun e w'=>e= .returned (.tuple #[])∧∃D:List Nt,D.length=q∧(∀x,x∈D↔x∈acc)∧aV w' w.heap.size 39 4 (E a5 q c5) (D.map mQ)∧Below w.heap.size wr w').mono ?_;rintro e w1⟨rfl,D,hDq,hDm,hO1,hb⟩;have K1:=Lib.hid (HK.out.trans hb);have HD:=Lib.hid (And.intro hDq hDm);have HO1:=Lib.hid hO1;have s1:=K1.out.size;clear hDq hDm hO1 hb HO;go_wp2_with fail;refine(by have:=AH w.heap.size a5 c5 D w1 (by rw[HD.out.1];exact HO1.out) (by rw[HD.out.1];omega);rw[HD.out.1]at this;exact this:Calls Tryz.prog 327 #[E a5 q c5] w1 fun e w'=>∃D':List Nt,e= .returned (E a5 D'.length c5)∧aV w' w.heap.size 39 4 (E a5 D'.length c5) (D'.map mQ)∧(∀x,x∈D'↔x∈D)∧D'.length≤q∧Below (min w.heap.size w1.heap.size) w1 w').mono ?_;rintro e w2⟨D',rfl,hO2,hm2,hl2',hb⟩;rw[Nat.min_eq_left s1]at hb;have K2:=Lib.hid (K1.out.trans hb);have H2:=Lib.hid (And.intro hO2 hm2);generalize hdl:D'.length=dl at*;have hdl:=Lib.hid hdl;clear hO2 hm2 hb;go_wp2;go_ret;exact⟨_,D',rfl,by rw[hdl.out];omega,fun x=>(H2.out.2 x).trans ((HD.out.2 x).trans (by rw[hE.out])),H2.out.1,K2.out⟩
      |succ gk'=>
       have hk:(k:Int)<(m:Int):=aa;have hk0:0≤(k:Int):=aa;have hkl:k<L.length:=by rw[←hm.out];omega
       have hx:=List.getElem?_eq_getElem hkl;have hd:=he.out;have hy:=HL.out _ (List.getElem_mem hkl);rw[List.drop_eq_getElem_cons hkl]at hd;generalize L[k]=y at*;obtain⟨g,o,cL,e0,hgw,e1,e2,-⟩:=eC HU.out (k:=k) (D:=bh y) mR;simp only[Value.slice.injEq]at e0;obtain⟨rfl,-,rfl⟩:=e0;obtain⟨e1,e2⟩:=bm (W':=wr) ⟨e1,e2⟩ (HK.out.block g hgw);have hgr:g<wr.heap.size:=aa;rw[IV,←List.append_assoc]at hd;have hG:=Lib.hid (fun(W:World)=>A2 y.e hy.2.1 W);simp only[bh]at e2;clear hx he hkl hy;by_cases c:y.s=2;·
        have c1:(y.s==2)=true:=beq_iff_eq.2 c;rw[if_pos (decide_eq_true c)]at hd;replace hd:=Lib.hid hd;clear c;go_wp2_with fail;refine(hG.out _).mono ?_;rintro r w1⟨rfl,hb⟩;have b1:Below wr.heap.size wr w1:=((Below.refl wr.heap.size wr).alloc (Nat.le_refl _) _).trans (hb.mono ay);have s1:=b1.size;have hO1:=Lib.hid (HO.out.below b1);have K1:=Lib.hid (HK.out.trans (b1.mono sr));clear hb HO e1 e2;go_wp2_with(at_builtin;refine LV rfl (.tmp 36) (.tmp 41) rfl _ _ (acc.map mQ) [#[.bool (gA y.e).s,J (gA y.e).h,J (gA y.e).l,I (gA y.e).b]] rfl (hO1.out.below ((Below.refl w1.heap.size w1).alloc (Nat.le_refl _) (.cells #[.bool (gA y.e).s,J (gA y.e).h,J (gA y.e).l,I (gA y.e).b] 39))) _ _ _ rfl (cY w1 #[.bool (gA y.e).s,J (gA y.e).h,J (gA y.e).l,I (gA y.e).b] 39 4 _ rfl rfl rfl) aF ix ?_;intro v7 w7 hown hbel hnil;have k7:Below w.heap.size w1 w7:=((Below.refl w.heap.size w1).alloc aa _).trans hbel;have HO7:=Lib.hid (show aV w7 w.heap.size 39 4 v7 ((acc++[gA y.e]).map mQ)by rw[List.map_append];exact hown);clear hown hbel hnil);go_roundg gk';case measure=>omega
        case rel=>exact⟨k+1,acc++[gA y.e],ay,aa,Lib.hid (by have:=hd.out;simpa using this),HO7,Lib.hid (K1.out.trans (k7.mono aa))⟩
       ·have c1:(y.s==2)=false:=beq_eq_false_iff_ne.2 c;rw[if_neg (by simpa using c)]at hd;replace hd:=Lib.hid hd;clear c;exact DB
   |succ gk'=>
    have hk:(k:Int)<(n:Int):=aa;have hk0:0≤(k:Int):=aa;have hkl:k<P.length:=ig;have hx:=List.getElem?_eq_getElem hkl;have hd:=he.out;have hy:=HP.out _ (List.getElem_mem hkl);rw[List.drop_eq_getElem_cons hkl]at hd;generalize P[k]=y at*;obtain⟨g,o,cL,e0,hgw,e1,e2,-⟩:=eC HV.out (k:=k) (D:=eT y) mR;simp only[Value.slice.injEq]at e0;obtain⟨rfl,-,rfl⟩:=e0;obtain⟨e1,e2⟩:=bm (W':=wr) ⟨e1,e2⟩ (HK.out.block g hgw);have hgr:g<wr.heap.size:=aa;rw[IW,←List.append_assoc]at hd;replace hd:=Lib.hid hd;have hG:=Lib.hid (fun(W:World)=>A2 y.e hy.2.1 W);simp only[eT]at e2;clear hx he hkl hy;cases hp:y.i;·
     rw[hp]at hd e2;go_wp2_with fail;refine(hG.out _).mono ?_;rintro r w1⟨rfl,hb⟩;have b1:Below wr.heap.size wr w1:=((Below.refl wr.heap.size wr).alloc (Nat.le_refl _) _).trans (hb.mono ay);have s1:=b1.size;have hO1:=Lib.hid (HO.out.below b1);have K1:=Lib.hid (HK.out.trans (b1.mono sr));clear hb HO hp e1 e2;go_wp2_with(at_builtin;refine LV rfl (.tmp 19) (.tmp 24) rfl _ _ (acc.map mQ) [#[.bool (gA y.e).s,J (gA y.e).h,J (gA y.e).l,I (gA y.e).b]] rfl (hO1.out.below ((Below.refl w1.heap.size w1).alloc (Nat.le_refl _) (.cells #[.bool (gA y.e).s,J (gA y.e).h,J (gA y.e).l,I (gA y.e).b] 39))) _ _ _ rfl (cY w1 #[.bool (gA y.e).s,J (gA y.e).h,J (gA y.e).l,I (gA y.e).b] 39 4 _ rfl rfl rfl) aF ix ?_;intro v7 w7 hown hbel hnil;have k7:Below w.heap.size w1 w7:=((Below.refl w.heap.size w1).alloc aa _).trans hbel;have HO7:=Lib.hid (show aV w7 w.heap.size 39 4 v7 ((acc++[gA y.e]).map mQ)by rw[List.map_append];exact hown);clear hown hbel hnil);go_roundg gk';case measure=>omega
     case rel=>exact⟨k+1,acc++[gA y.e],ay,aa,Lib.hid (by have:=hd.out;simpa using this),HO7,Lib.hid (K1.out.trans (k7.mono aa))⟩
    ·rw[hp]at hd e2;clear hp;exact DB
end
section
attribute[local go_sem high]ah
attribute[local simp high]ah
theorem jY{p:Prop}(h:PQ p:=by have hk:(k:Int)<(n:Int):=aa;have hk0:0≤(k:Int):=aa;have hkl:k<P.length:=ig;exact pq (And.intro hk (And.intro hk0 hkl))):p:=h
theorem zI{p:Prop}(h:p:=by
 have hy:=Lib.hid hy;have htk:=Lib.hid htk;clear hkl hel hsub;by_cases c:y.e=x;·
  have ec:∀(α:Type)(a b:α),(if y.e.six=x.six then if y.e.hi=x.hi then if y.e.lo=x.lo then if y.e.port=x.port then a else b else b else b else b)=a:=fun α a b=>by simp[c]
  replace c:=Lib.hid c;go_upto_region 4 with(fail);have HF:=Lib.hid (fun(W:World)(hS:(aw wr) W)=>And.intro (Bx.mono hS.out HBr.out aF) (HE.out W (hK.out.trans (hS.out.mono hK.out.size))));refine cQ (aw wr) [0,1,2,3,4,5,6] 0 ?_;iterate 7 refine pO ?_
  refine pE ?_;refine cU ?_;go_wp2;go_ret;exact⟨⟨k,rfl,.inr ⟨k,rfl,y,hy.out,c.out⟩⟩,d0.trans ((hK.out.trans ((cb:Below wr.heap.size wr _).mono hK.out.size)).mono aa)⟩
 ·have ec:=fun(α:Type)(a b:α)=>RT c a b;replace c:=Lib.hid c;go_upto_region 4 with(fail);have HF:=Lib.hid (fun(W:World)(hS:(aw wr) W)=>And.intro (Bx.mono hS.out HBr.out aF) (HE.out W (hK.out.trans (hS.out.mono hK.out.size))));refine cQ (aw wr) [0,1,2,3,4,5,6] 0 ?_;iterate 7 refine pO ?_
  refine pE ?_;refine cU ?_;go_wp2_with fail;go_roundg gk';case measure=>omega
  case rel=>exact⟨k+1,bD,aa,Lib.hid (QP),⟨hK.out.trans ((cb:Below wr.heap.size wr _).mono hK.out.size)⟩⟩):p:=h
theorem zJ{p:Prop}(h:p:=by
 rw[if_pos hb]at hd;replace hb:=Lib.hid hb;go_wp2_with fail;go_roundg gk';case measure=>omega
 case rel=>exact⟨k+1,c+1,bD,bD,aa,aa,Lib.hid uE,Lib.hid (HK.out.trans ((cb:Below wr.heap.size wr _).mono HK.out.size))⟩):p:=h
theorem zK{p:Prop}(h:p:=by
 rw[if_neg hb]at hd;replace hb:=Lib.hid hb;go_wp2_with fail;go_roundg gk';case measure=>omega
 case rel=>exact⟨k+1,c,rfl,bD,aa,aa,Lib.hid uE,Lib.hid (HK.out.trans ((cb:Below wr.heap.size wr _).mono HK.out.size))⟩):p:=h
theorem dU{W:World}{v:Value}{n:Nat}{L:List (Array Value)}(h:Sl W v n L){k:Nat}{D:Array Value}(hk:L[k]? =some D):∃g o cap,v= .slice (some ⟨g,o,none⟩) L.length cap∧jr W g (o+k*n) n D:=by
 obtain⟨a,cap,rfl,h1,h2,h3⟩:=h;rcases h3 with⟨rfl,rfl⟩|⟨g,o,rfl,hg,h3⟩;·simp at hk
 ·exact⟨g,o,cap,rfl,h3 k D hk⟩
theorem fK{W:World}{g o n:Nat}{C:Array Value}(h:jr W g o n C)(i m:Nat)(D:List Value)(hm:D.length=m)(hD:∀k v,D[k]? =some v→C[i+k]? =some v):aR W ⟨g,o+i,none⟩ m=true∧aO W ⟨g,o+i,none⟩ m=D.toArray:=fO (W:=W) (p:=⟨g,o+i,none⟩) (cs:=D) (n:=m) hm fun k v hv=>by have:=h.cell (hD k v hv);rw[cF];rw[show o+i+k=o+(i+k)by omega];exact this
theorem RT{α:Type}{y x:Ed}(h:¬y=x)(a b:α):(if y.six=x.six then if y.hi=x.hi then if y.lo=x.lo then if y.port=x.port then a else b else b else b else b)=b:=by
 obtain⟨y1,y2,y3,y4⟩:=y;obtain⟨x1,x2,x3,x4⟩:=x;simp only[Ed.mk.injEq]at h;split;·
  split;·
   split;·
    split;·rename_i h1 h2 h3 h4;exact absurd ⟨h1,h2,h3,h4⟩ h
    ·rfl
   ·rfl
  ·rfl
 ·rfl
def gF(b:Bool)(P:List Pe):Nat:=(P.filter fun y=>decide (y.i=b)).length
def je(b:Int)(L:List En):Nat:=(L.filter fun y=>decide (y.s=b)).length
theorem yg(b:Bool)(y:Pe)(P:List Pe):gF b (y::P)=(if y.i=b then 1 else 0)+gF b P:=by unfold gF;rw[List.filter_cons];by_cases h:y.i=b<;>simp[h];omega
theorem yf(b:Int)(y:En)(P:List En):je b (y::P)=(if y.s=b then 1 else 0)+je b P:=by unfold je;rw[List.filter_cons];by_cases h:y.s=b<;>simp[h];omega
theorem Is(b:Bool)(P:List Pe)(hl:P.length≤100000)(v:Value)(w:World)(hs:Sl w v 10 (P.map eT)):Calls Tryz.prog 34 #[v,b] w fun e w'=>e= .returned (I (gF b P:Nat))∧w'=w:=by
 have HS:=Lib.hid hs;obtain⟨a,cp,rfl,-⟩:=id hs;rw[List.length_map];obtain⟨n,hn⟩:∃n,n=P.length:=⟨_,rfl⟩;rw[←hn]at hl⊢;replace hn:=Lib.hid hn;clear hs;go_enter Tryz.func34,Tryz.ntmps34;go_wp2_with fail;go_loopg[5,6]n(fun g s5 s6 wr=>∃k c:Nat,s5= .int .i64 c∧s6= .int .i64 k∧k+g=n∧c≤k∧Hid (c+gF b (P.drop k)=gF b P)∧w=wr);case atStart=>exact⟨0,0,rfl,rfl,aa,Nat.le_refl _,Lib.hid ay,rfl⟩
 case round=>
  obtain⟨k,c,rfl,rfl,hg,hc,hx,rfl⟩:=hrel;cases gk with
   |zero=>have hk:¬((k:Int)<(n:Int)):=aa;go_wp2;go_ret;exact⟨by have h:c+0=gF b P:=(JF);rw[←h];rfl,rfl⟩
   |succ gk'=>
    obtain⟨hk,hk0,hkl⟩:=jY;have hd:=hx.out;rw[List.drop_eq_getElem_cons hkl]at hd;have hy:=List.getElem?_eq_getElem hkl;generalize P[k]=y at*;obtain⟨g,o,cL,e0,hel⟩:=dU HS.out (k:=k) (D:=eT y) nQ;simp only[Value.slice.injEq]at e0;obtain⟨rfl,-,rfl⟩:=e0;have hcell:=hel.cell (k:=4) (v:=y.i) rfl;rw[yg]at hd;replace hd:=Lib.hid hd;clear hx hy hkl hel;by_cases hb:y.i=b;·
     have hb':(y.i==b)=true:=beq_iff_eq.2 hb;rw[if_pos hb]at hd;replace hb:=Lib.hid hb;go_wp2_with fail;go_roundg gk';case measure=>omega
     case rel=>exact⟨k+1,c+1,bD,bD,aa,aa,Lib.hid uE,rfl⟩
    ·have hb':(y.i==b)=false:=beq_eq_false_iff_ne.2 hb;rw[if_neg hb]at hd;replace hb:=Lib.hid hb;go_wp2_with fail;go_roundg gk';case measure=>omega
     case rel=>exact⟨k+1,c,rfl,bD,aa,aa,Lib.hid uE,rfl⟩
theorem Ol(b:Int)(P:List En)(hl:P.length≤100000)(v:Value)(w:World)(hs:Sl w v 7 (P.map bh)):Calls Tryz.prog 35 #[v,b] w fun e w'=>e= .returned (I (je b P:Nat))∧w'=w:=by
 have HS:=Lib.hid hs;obtain⟨a,cp,rfl,-⟩:=id hs;rw[List.length_map];obtain⟨n,hn⟩:∃n,n=P.length:=⟨_,rfl⟩;rw[←hn]at hl⊢;replace hn:=Lib.hid hn;clear hs;go_enter Tryz.func35,Tryz.ntmps35;go_wp2_with fail;go_loopg[5,6]n(fun g s5 s6 wr=>∃k c:Nat,s5= .int .i64 c∧s6= .int .i64 k∧k+g=n∧c≤k∧Hid (c+je b (P.drop k)=je b P)∧w=wr);case atStart=>exact⟨0,0,rfl,rfl,aa,Nat.le_refl _,Lib.hid ay,rfl⟩
 case round=>
  obtain⟨k,c,rfl,rfl,hg,hc,hx,rfl⟩:=hrel;cases gk with
   |zero=>have hk:¬((k:Int)<(n:Int)):=aa;go_wp2;go_ret;exact⟨by have h:c+0=je b P:=(JF);rw[←h];rfl,rfl⟩
   |succ gk'=>
    obtain⟨hk,hk0,hkl⟩:=jY;have hd:=hx.out;rw[List.drop_eq_getElem_cons hkl]at hd;have hy:=List.getElem?_eq_getElem hkl;generalize P[k]=y at*;obtain⟨g,o,cL,e0,hel⟩:=dU HS.out (k:=k) (D:=bh y) nQ;simp only[Value.slice.injEq]at e0;obtain⟨rfl,-,rfl⟩:=e0;have hcell:=hel.cell (k:=4) (v:=y.s) rfl;rw[yf]at hd;replace hd:=Lib.hid hd;clear hx hy hkl hel;by_cases hb:y.s=b;·
     have hb':(y.s==b)=true:=beq_iff_eq.2 hb;rw[if_pos hb]at hd;replace hb:=Lib.hid hb;go_wp2_with fail;go_roundg gk';case measure=>omega
     case rel=>exact⟨k+1,c+1,bD,bD,aa,aa,Lib.hid uE,rfl⟩
    ·have hb':(y.s==b)=false:=beq_eq_false_iff_ne.2 hb;rw[if_neg hb]at hd;replace hb:=Lib.hid hb;go_wp2_with fail;go_roundg gk';case measure=>omega
     case rel=>exact⟨k+1,c,rfl,bD,aa,aa,Lib.hid uE,rfl⟩
theorem sR(b:Bool)(P:List Pe)(hl:P.length≤100000)(v:Value)(w:World)(hs:Sl w v 10 (P.map eT)):Calls Tryz.prog 45 #[v,b] w fun e w'=>e= .returned (I (gF b P:Nat))∧Below w.heap.size w w':=by
 have HS:=Lib.hid hs;obtain⟨a,cp,rfl,-⟩:=id hs;rw[List.length_map];obtain⟨n,hn⟩:∃n,n=P.length:=⟨_,rfl⟩;rw[←hn]at hl⊢;replace hn:=Lib.hid hn;clear hs;go_enter Tryz.func45,Tryz.ntmps45;go_wp2_with fail;go_loopg[5,10]n(fun g s5 s6 wr=>∃k c:Nat,s5= .int .i64 c∧s6= .int .i64 k∧k+g=n∧c≤k∧Hid (c+gF b (P.drop k)=gF b P)∧Hid (Below w.heap.size w wr));case atStart=>exact⟨0,0,rfl,rfl,aa,Nat.le_refl _,Lib.hid ay,Lib.hid (Below.refl _ _)⟩
 case round=>
  obtain⟨k,c,rfl,rfl,hg,hc,hx,HK⟩:=hrel;cases gk with
   |zero=>have hk:¬((k:Int)<(n:Int)):=aa;go_wp2;go_ret;exact⟨by have h:c+0=gF b P:=(JF);rw[←h];rfl,HK.out⟩
   |succ gk'=>
    obtain⟨hk,hk0,hkl⟩:=jY;have hd:=hx.out;rw[List.drop_eq_getElem_cons hkl]at hd;have hy:=List.getElem?_eq_getElem hkl;generalize P[k]=y at*;obtain⟨g,o,cL,e0,hel⟩:=dU HS.out (k:=k) (D:=eT y) nQ;simp only[Value.slice.injEq]at e0;obtain⟨rfl,-,rfl⟩:=e0;have hel:=hel.block (HK.out.block g hel.lt);have e1:=hel.is;have e2:=hel.of;simp only[eT]at e2;have hgr:g<wr.heap.size:=hel.lt;rw[yg]at hd;replace hd:=Lib.hid hd;clear hx hy hkl hel;by_cases hb:y.i=b;·have hb':(y.i==b)=true:=beq_iff_eq.2 hb;exact zJ
    ·have hb':(y.i==b)=false:=beq_eq_false_iff_ne.2 hb;exact zK
theorem Bk(b:Int)(P:List En)(hl:P.length≤100000)(v:Value)(w:World)(hs:Sl w v 7 (P.map bh)):Calls Tryz.prog 49 #[v,b] w fun e w'=>e= .returned (I (je b P:Nat))∧Below w.heap.size w w':=by
 have HS:=Lib.hid hs;obtain⟨a,cp,rfl,-⟩:=id hs;rw[List.length_map];obtain⟨n,hn⟩:∃n,n=P.length:=⟨_,rfl⟩;rw[←hn]at hl⊢;replace hn:=Lib.hid hn;clear hs;go_enter Tryz.func49,Tryz.ntmps49;go_wp2_with fail;go_loopg[5,10]n(fun g s5 s6 wr=>∃k c:Nat,s5= .int .i64 c∧s6= .int .i64 k∧k+g=n∧c≤k∧Hid (c+je b (P.drop k)=je b P)∧Hid (Below w.heap.size w wr));case atStart=>exact⟨0,0,rfl,rfl,aa,Nat.le_refl _,Lib.hid ay,Lib.hid (Below.refl _ _)⟩
 case round=>
  obtain⟨k,c,rfl,rfl,hg,hc,hx,HK⟩:=hrel;cases gk with
   |zero=>have hk:¬((k:Int)<(n:Int)):=aa;go_wp2;go_ret;exact⟨by have h:c+0=je b P:=(JF);rw[←h];rfl,HK.out⟩
   |succ gk'=>
    obtain⟨hk,hk0,hkl⟩:=jY;have hd:=hx.out;rw[List.drop_eq_getElem_cons hkl]at hd;have hy:=List.getElem?_eq_getElem hkl;generalize P[k]=y at*;obtain⟨g,o,cL,e0,hel⟩:=dU HS.out (k:=k) (D:=bh y) nQ;simp only[Value.slice.injEq]at e0;obtain⟨rfl,-,rfl⟩:=e0;have hel:=hel.block (HK.out.block g hel.lt);have e1:=hel.is;have e2:=hel.of;simp only[bh]at e2;have hgr:g<wr.heap.size:=hel.lt;rw[yf]at hd;replace hd:=Lib.hid hd;clear hx hy hkl hel;by_cases hb:y.s=b;·have hb':(y.s==b)=true:=beq_iff_eq.2 hb;exact zJ
    ·have hb':(y.s==b)=false:=beq_eq_false_iff_ne.2 hb;exact zK
theorem Lj(x:Ed)(P:List Pe)(hl:P.length≤100000)(v:Value)(w:World)(hs:Sl w v 10 (P.map eT)):Calls Tryz.prog 61 #[v,.agg #[x.six,J x.hi,J x.lo,x.port]] w fun e w'=>(∃r:Int,e= .returned r∧(r=-1∧(∀y∈P,y.e≠x)∨∃i:Nat,r=i∧∃y,P[i]? =some y∧y.e=x))∧Below w.heap.size w w':=by
 have HS:=Lib.hid hs;obtain⟨a,cp,rfl,-⟩:=id hs;rw[List.length_map];obtain⟨n,hn⟩:∃n,n=P.length:=⟨_,rfl⟩;rw[←hn]at hl⊢;replace hn:=Lib.hid hn;clear hs;go_enter Tryz.func61,Tryz.ntmps61;go_wp2_with fail;refine jg 1 [(36,4,_)] ?_;intro WB HB d0 sWB fHB;simp only[Bx,Bo]at fHB;go_loopg[5]n(fun g s5 wr=>∃k:Nat,s5= .int .i64 k∧k+g=n∧Hid (∀y∈P.take k,y.e≠x)∧aw WB wr);case atStart=>exact⟨0,rfl,aa,Lib.hid ay,⟨Below.refl _ _⟩⟩
 case round=>
  obtain⟨k,rfl,hg,hx,hK⟩:=hrel;have HBr:=Lib.hid (Bx.mono hK.out HB.out aF);have fBr:=HBr.out;simp only[Bx,Bo]at fBr;clear fHB;cases gk with
   |zero=>have hk:¬((k:Int)<(n:Int)):=aa;go_wp2;go_ret;exact⟨⟨-1,rfl,.inl ⟨rfl,L4⟩⟩,d0.trans (hK.out.mono aa)⟩
   |succ gk'=>obtain⟨hk,hk0,hkl⟩:=jY;have hy:=List.getElem?_eq_getElem hkl;have htk:P.take (k+1)=P.take k++[P[k]]:=List.take_succ_eq_append_getElem hkl;generalize P[k]=y at*;obtain⟨g,o,cL,e0,hel⟩:=dU HS.out (k:=k) (D:=eT y) nQ;simp only[Value.slice.injEq]at e0;obtain⟨rfl,-,rfl⟩:=e0;have hsub:=fK hel 0 4 [y.e.six,J y.e.hi,J y.e.lo,y.e.port] rfl (fun q v hv=>pc);have HE:=Lib.hid (show∀W,Below WB.heap.size WB W→aR W ⟨g,o+k*10,none⟩ 4=true∧aO W ⟨g,o+k*10,none⟩ 4=(#[y.e.six,J y.e.hi,J y.e.lo,y.e.port]:AV)from fun W k=>bm hsub (((k.block g (by have:=hel.lt;omega)).trans (d0.block g hel.lt))));exact zI
theorem Li(x:Ed)(P:List En)(hl:P.length≤100000)(v:Value)(w:World)(hs:Sl w v 7 (P.map bh)):Calls Tryz.prog 62 #[v,.agg #[x.six,J x.hi,J x.lo,x.port]] w fun e w'=>(∃r:Int,e= .returned r∧(r=-1∧(∀y∈P,y.e≠x)∨∃i:Nat,r=i∧∃y,P[i]? =some y∧y.e=x))∧Below w.heap.size w w':=by
 have HS:=Lib.hid hs;obtain⟨a,cp,rfl,-⟩:=id hs;rw[List.length_map];obtain⟨n,hn⟩:∃n,n=P.length:=⟨_,rfl⟩;rw[←hn]at hl⊢;replace hn:=Lib.hid hn;clear hs;go_enter Tryz.func62,Tryz.ntmps62;go_wp2_with fail;refine jg 1 [(36,4,_)] ?_;intro WB HB d0 sWB fHB;simp only[Bx,Bo]at fHB;go_loopg[5]n(fun g s5 wr=>∃k:Nat,s5= .int .i64 k∧k+g=n∧Hid (∀y∈P.take k,y.e≠x)∧aw WB wr);case atStart=>exact⟨0,rfl,aa,Lib.hid ay,⟨Below.refl _ _⟩⟩
 case round=>
  obtain⟨k,rfl,hg,hx,hK⟩:=hrel;have HBr:=Lib.hid (Bx.mono hK.out HB.out aF);have fBr:=HBr.out;simp only[Bx,Bo]at fBr;clear fHB;cases gk with
   |zero=>have hk:¬((k:Int)<(n:Int)):=aa;go_wp2;go_ret;exact⟨⟨-1,rfl,.inl ⟨rfl,L4⟩⟩,d0.trans (hK.out.mono aa)⟩
   |succ gk'=>obtain⟨hk,hk0,hkl⟩:=jY;have hy:=List.getElem?_eq_getElem hkl;have htk:P.take (k+1)=P.take k++[P[k]]:=List.take_succ_eq_append_getElem hkl;generalize P[k]=y at*;obtain⟨g,o,cL,e0,hel⟩:=dU HS.out (k:=k) (D:=bh y) nQ;simp only[Value.slice.injEq]at e0;obtain⟨rfl,-,rfl⟩:=e0;have hsub:=fK hel 0 4 [y.e.six,J y.e.hi,J y.e.lo,y.e.port] rfl (fun q v hv=>pc);have HE:=Lib.hid (show∀W,Below WB.heap.size WB W→aR W ⟨g,o+k*7,none⟩ 4=true∧aO W ⟨g,o+k*7,none⟩ 4=(#[y.e.six,J y.e.hi,J y.e.lo,y.e.port]:AV)from fun W k=>bm hsub (((k.block g (by have:=hel.lt;omega)).trans (d0.block g hel.lt))));exact zI
end
section
attribute[local go_sem high]ah
attribute[local simp high]ah
theorem lO(six:Bool)(hi lo:Int)(hl:U6 lo)(w:World):Calls Tryz.prog 32 #[.agg #[six,J hi,J lo]] w fun e w'=>e= .returned (.bool (ir six hi lo))∧Below w.heap.size w w':=by
 have hq:Int.tdiv lo 4294967296=lo/4294967296:=Int.tdiv_eq_ediv_of_nonneg hl.1;have hw:IntKind.u64.wrap (lo/4294967296)=lo/4294967296:=by rw[IntKind.wrap_u64];have:=hl.1;have:=hl.2;omega
 unfold ir;cases six;all_goals by_cases h1:hi=0
 ·have e1:(hi==0)=true:=beq_iff_eq.2 h1;rw[decide_eq_true h1];replace h1:=Lib.hid h1;by_cases h2:lo<4294967296;all_goals go_enter Tryz.func32,Tryz.ntmps32;go_wp2;go_ret;exact⟨by simp[h2],cb⟩
 ·have e1:(hi==0)=false:=beq_eq_false_iff_ne.2 h1;rw[decide_eq_false h1];replace h1:=Lib.hid h1;go_enter Tryz.func32,Tryz.ntmps32;go_wp2;go_ret;exact⟨ay,cb⟩
 ·have e1:(hi !=0)=false:=by simp[h1]
  rw[decide_eq_true h1];replace h1:=Lib.hid h1;by_cases h2:lo/4294967296=65535;all_goals go_enter Tryz.func32,Tryz.ntmps32;go_wp2;go_ret;exact⟨by simp[h2],cb⟩
 ·have e1:(hi !=0)=true:=by simp[h1]
  rw[decide_eq_false h1];replace h1:=Lib.hid h1;go_enter Tryz.func32,Tryz.ntmps32;go_wp2;go_ret;exact⟨ay,cb⟩
theorem Dh(six:Bool)(hi lo:Int)(w:World):Calls Tryz.prog 63 #[.agg #[six,J hi,J lo]] w fun e w'=>e= .returned (I (gq six))∧Below w.heap.size w w':=by cases six;all_goals go_enter Tryz.func63,Tryz.ntmps63;go_wp2;go_ret;exact⟨rfl,cb⟩
theorem Rk(p0 p1:Prop):(p0∧p1)∨(p0∧¬p1)∨(¬p0):=by
 by_cases h0:p0;case neg=>simp[h0]
 by_cases h1:p1;case neg=>simp[h1,h0]
 exact .inl ⟨h0,h1⟩
theorem Rm(p0 p1 p2:Prop):(p0∧p1∧p2)∨(p0∧p1∧¬p2)∨(p0∧¬p1)∨(¬p0):=by
 by_cases h0:p0;case neg=>simp[h0]
 by_cases h1:p1;case neg=>simp[h1,h0]
 by_cases h2:p2;case neg=>simp[h2,h0,h1]
 exact .inl ⟨h0,h1,h2⟩
theorem Ro(p0 p1 p2 p3:Prop):(p0∧p1∧p2∧p3)∨(p0∧p1∧p2∧¬p3)∨(p0∧p1∧¬p2)∨(p0∧¬p1)∨(¬p0):=by
 by_cases h0:p0;case neg=>simp[h0]
 by_cases h1:p1;case neg=>simp[h1,h0]
 by_cases h2:p2;case neg=>simp[h2,h0,h1]
 by_cases h3:p3;case neg=>simp[h3,h0,h1,h2]
 exact .inl ⟨h0,h1,h2,h3⟩
theorem RD(p0 p1 p2 p3 p4 p5 p6:Prop):(p0∧p1∧p2∧p3∧p4∧p5∧p6)∨(p0∧p1∧p2∧p3∧p4∧p5∧¬p6)∨(p0∧p1∧p2∧p3∧p4∧¬p5)∨(p0∧p1∧p2∧p3∧¬p4)∨(p0∧p1∧p2∧¬p3)∨(p0∧p1∧¬p2)∨(p0∧¬p1)∨(¬p0):=by
 by_cases h0:p0;case neg=>simp[h0]
 by_cases h1:p1;case neg=>simp[h1,h0]
 by_cases h2:p2;case neg=>simp[h2,h0,h1]
 by_cases h3:p3;case neg=>simp[h3,h0,h1,h2]
 by_cases h4:p4;case neg=>simp[h4,h0,h1,h2,h3]
 by_cases h5:p5;case neg=>simp[h5,h0,h1,h2,h3,h4]
 by_cases h6:p6;case neg=>simp[h6,h0,h1,h2,h3,h4,h5]
 exact .inl ⟨h0,h1,h2,h3,h4,h5,h6⟩
theorem QR(p0 p1 p2 p3 p4 p5 p6 p7 p8 p9 p10:Prop):(p0∧p1∧p2∧p3∧p4∧p5∧p6∧p7∧p8∧p9∧p10)∨(p0∧p1∧p2∧p3∧p4∧p5∧p6∧p7∧p8∧p9∧¬p10)∨(p0∧p1∧p2∧p3∧p4∧p5∧p6∧p7∧p8∧¬p9)∨(p0∧p1∧p2∧p3∧p4∧p5∧p6∧p7∧¬p8)∨(p0∧p1∧p2∧p3∧p4∧p5∧p6∧¬p7)∨(p0∧p1∧p2∧p3∧p4∧p5∧¬p6)∨(p0∧p1∧p2∧p3∧p4∧¬p5)∨(p0∧p1∧p2∧p3∧¬p4)∨(p0∧p1∧p2∧¬p3)∨(p0∧p1∧¬p2)∨(p0∧¬p1)∨(¬p0):=by
 by_cases h0:p0;case neg=>simp[h0]
 by_cases h1:p1;case neg=>simp[h1,h0]
 by_cases h2:p2;case neg=>simp[h2,h0,h1]
 by_cases h3:p3;case neg=>simp[h3,h0,h1,h2]
 by_cases h4:p4;case neg=>simp[h4,h0,h1,h2,h3]
 by_cases h5:p5;case neg=>simp[h5,h0,h1,h2,h3,h4]
 by_cases h6:p6;case neg=>simp[h6,h0,h1,h2,h3,h4,h5]
 by_cases h7:p7;case neg=>simp[h7,h0,h1,h2,h3,h4,h5,h6]
 by_cases h8:p8;case neg=>simp[h8,h0,h1,h2,h3,h4,h5,h6,h7]
 by_cases h9:p9;case neg=>simp[h9,h0,h1,h2,h3,h4,h5,h6,h7,h8]
 by_cases h10:p10;case neg=>simp[h10,h0,h1,h2,h3,h4,h5,h6,h7,h8,h9]
 exact .inl ⟨h0,h1,h2,h3,h4,h5,h6,h7,h8,h9,h10⟩
theorem Ip(e:Ed)(hl:U6 e.lo)(w:World):Calls Tryz.prog 138 #[.agg #[e.six,J e.hi,J e.lo,e.port]] w fun r w'=>r= .returned (.bool (Jd e.six e.hi e.lo e.port))∧Below w.heap.size w w':=by have HR:=fun W=>lO e.six e.hi e.lo hl W;rcases Rm (ir e.six e.hi e.lo=true) (e.port>0) (e.port<65536)with⟨h0,h1,h2⟩|⟨h0,h1,h2⟩|⟨h0,h1⟩|h0;all_goals(try rw[Bool.not_eq_true]at h0);rw[h0]at HR;replace HR:=Lib.hid HR;go_enter Tryz.func138,Tryz.ntmps138;go_wp2_with(go_at_call 32;refine(HR.out _).mono ?_;rintro e w1⟨rfl,hb⟩;have hk1:=aw.mk hb;have xx:=cZ hk1.out;have zz:=zs w.heap.size w1.heap.size;clear hb);go_ret;exact⟨by unfold Jd;rw[h0];by_cases z1:1≤e.port<;>by_cases z2:e.port≤65535<;>simp[z1,z2]<;>omega,cb⟩
theorem Oe(y:En)(hh:U6 y.e.hi)(hl:U6 y.e.lo)(w:World):Calls Tryz.prog 98 #[.agg #[y.e.six,J y.e.hi,J y.e.lo,y.e.port,y.s,y.f,y.x]] w fun r w'=>(r= .returned Y∧lf y∨r= .returned F)∧Below w.heap.size w w':=by have HR:=fun W=>Ip y.e hl W;rcases RD (Jd y.e.six y.e.hi y.e.lo y.e.port=true) (y.s≥1) (y.s≤3) (y.f≥0) (y.f≤1000) (y.x≥0) (y.x≤1099511627776)with⟨h0,h1,h2,h3,h4,h5,h6⟩|⟨h0,h1,h2,h3,h4,h5,h6⟩|⟨h0,h1,h2,h3,h4,h5⟩|⟨h0,h1,h2,h3,h4⟩|⟨h0,h1,h2,h3⟩|⟨h0,h1,h2⟩|⟨h0,h1⟩|h0;all_goals(try rw[Bool.not_eq_true]at h0);rw[h0]at HR;replace HR:=Lib.hid HR;go_enter Tryz.func98,Tryz.ntmps98;go_wp2_with(go_at_call 138;refine(HR.out _).mono ?_;rintro e w1⟨rfl,hb⟩;have hk1:=aw.mk hb;have xx:=cZ hk1.out;have zz:=zs w.heap.size w1.heap.size;clear hb);go_ret;first|exact⟨.inr pF,cb⟩|exact⟨.inl ⟨pF,⟨hh,hl,h0,h1,h2,h3,h4,h5,h6⟩⟩,cb⟩
end
section
attribute[local go_sem high]ah
attribute[local simp high]ah
theorem zL{p:Prop}(h:p:=by
 intro WB HB d0 sWB fHB;simp only[Bx,Bo]at fHB;refine(HR.out _).mono ?_;rintro e w1⟨⟨r,rfl,hr⟩,hb⟩;have HB1:=cD hb HB;have d1:=dE d0 hb;have s1':=hb.size;have fB1:=HB1.out;simp only[Bx,Bo]at fB1;clear hb fHB;obtain⟨r1,r2,r3⟩:=hr;rcases r3 with rfl|rfl|rfl;·
  have q2:=Lib.hid (r2 rfl);clear r1 r2;rcases Int.lt_trichotomy b1 b2 with hh|hh|hh;all_goals(try subst hh)<;>(try have hn:¬b1=b2:=aa)<;>(try have hm:¬b1<b2:=aa)
  all_goals go_wp2;go_ret;exact⟨⟨_,rfl,fun h=>(by first|(exfalso;omega)|(exact hc.out.1.2 (.inr ⟨q2.out,aa⟩))),fun h=>(by first|(exfalso;omega)|(exact hc.out.2.2 ⟨q2.out,BZ⟩)),ay⟩,d1⟩
 all_goals(try have q1:=Lib.hid (r1 az));clear r1 r2;go_wp2;go_ret;exact⟨⟨_,rfl,fun h=>(by first|(exfalso;omega)|(exact hc.out.1.2 (.inl q1.out))),fun h=>(by exfalso;omega),ay⟩,d1⟩):p:=h
theorem L9(s1:Bool)(h1 l1:Int)(s2:Bool)(h2 l2:Int):(mP s1 h1 l1 s2 h2 l2<0↔i7 s1<i7 s2∨i7 s1=i7 s2∧(h1<h2∨h1=h2∧l1<l2))∧(mP s1 h1 l1 s2 h2 l2=0↔i7 s1=i7 s2∧h1=h2∧l1=l2):=by unfold mP;have:=Bj (fh (i7 s1) (i7 s2)) (fh h1 h2) (fh l1 l2);simp only[xX]at this;exact this
def Mx(c r:Int):Prop:=(r<0→c<0)∧(r=0→c=0)∧(r=0∨r=-1∨r=1)
theorem Di(s1:Bool)(h1 l1:Int)(s2:Bool)(h2 l2:Int)(w:World):Calls Tryz.prog 137 #[.agg #[s1,J h1,J l1],.agg #[s2,J h2,J l2]] w fun e w'=>(∃r:Int,e= .returned r∧Mx (mP s1 h1 l1 s2 h2 l2) r)∧Below w.heap.size w w':=by
 have hc:=L9 s1 h1 l1 s2 h2 l2;generalize mP s1 h1 l1 s2 h2 l2=c at*;have hc1:=Lib.hid hc.1;have hc2:=Lib.hid hc.2;clear hc;rcases Int.lt_trichotomy h1 h2 with hh|hh|hh<;>rcases Int.lt_trichotomy l1 l2 with hl|hl|hl;all_goals(try subst hh)<;>(try subst hl)
 all_goals(try have hhn:¬h1=h2:=aa)<;>(try have hhm:¬h1<h2:=aa)<;>(try have hln:¬l1=l2:=aa)<;>(try have hlm:¬l1<l2:=aa)<;>(try have hb1:(h1 !=h2)=true:=(by simp[hhn]))
 all_goals(cases s1<;>cases s2)
 all_goals go_enter Tryz.func137,Tryz.ntmps137;go_wp2;go_ret;exact⟨⟨_,rfl,fun h=>(by first|(exfalso;omega)|(rw[hc1.out];simp[i7];try omega)),fun h=>(by first|(exfalso;omega)|(rw[hc2.out];simp[i7])),ay⟩,cb⟩
theorem F9(s1:Bool)(h1 l1 b1:Int)(s2:Bool)(h2 l2 b2:Int):(hJ s1 h1 l1 b1 s2 h2 l2 b2<0↔mP s1 h1 l1 s2 h2 l2<0∨mP s1 h1 l1 s2 h2 l2=0∧b1<b2)∧(hJ s1 h1 l1 b1 s2 h2 l2 b2=0↔mP s1 h1 l1 s2 h2 l2=0∧b1=b2):=by
 have h1':∀a b:Int,qD [a,b]<0↔a<0∨a=0∧b<0:=H4;have h2':∀a b:Int,qD [a,b]=0↔a=0∧b=0:=fun a b=>by unfold qD;by_cases h:a=0<;>by_cases h':b=0<;>simp[qD,h,h']
 unfold hJ;constructor;·rw[h1',(xX b1 b2).1]
 ·rw[h2',(xX b1 b2).2]
theorem La(s1:Bool)(h1 l1 b1:Int)(s2:Bool)(h2 l2 b2:Int)(w:World):Calls Tryz.prog 97 #[.agg #[s1,J h1,J l1,b1],.agg #[s2,J h2,J l2,b2]] w fun e w'=>(∃r:Int,e= .returned r∧Mx (hJ s1 h1 l1 b1 s2 h2 l2 b2) r)∧Below w.heap.size w w':=by have HR:=Lib.hid (fun W=>Di s1 h1 l1 s2 h2 l2 W);have hc:=F9 s1 h1 l1 b1 s2 h2 l2 b2;generalize hJ s1 h1 l1 b1 s2 h2 l2 b2=c at*;generalize mP s1 h1 l1 s2 h2 l2=d at*;replace hc:=Lib.hid hc;go_enter Tryz.func97,Tryz.ntmps97;go_wp2_with fail;refine en 2 [(39,4,_),(39,4,_)] ?_;exact zL
theorem Dj(s1:Bool)(h1 l1 b1:Int)(s2:Bool)(h2 l2 b2:Int)(w:World):Calls Tryz.prog 99 #[.agg #[s1,J h1,J l1,b1],.agg #[s2,J h2,J l2,b2]] w fun e w'=>(∃r:Int,e= .returned r∧Mx (hJ s1 h1 l1 b1 s2 h2 l2 b2) r)∧Below w.heap.size w w':=by have HR:=Lib.hid (fun W=>Di s1 h1 l1 s2 h2 l2 W);have hc:=F9 s1 h1 l1 b1 s2 h2 l2 b2;generalize hJ s1 h1 l1 b1 s2 h2 l2 b2=c at*;generalize mP s1 h1 l1 s2 h2 l2=d at*;replace hc:=Lib.hid hc;go_enter Tryz.func99,Tryz.ntmps99;go_wp2_with fail;refine en 2 [(36,4,_),(36,4,_)] ?_;exact zL
end
end Go.Proofs.YtnncjbkepakgpaaGreat
