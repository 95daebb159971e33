/- DIALS AT ONCE: somebody may go on; how it begins, and how it ends. TAPE: ALL LOCKS; A COUNTER. TAPE: A PART IS READ. WHO MAY BE DIALLED. -/
import Derived.Test.YtnncjbkepakgpaaGreatA38
namespace Go.Proofs.YtnncjbkepakgpaaGreat
open Go.RowKit Qv
set_option linter.unusedVariables false
set_option linter.unusedSimpArgs false
set_option maxRecDepth 100000
set_option maxHeartbeats 4000000
section
section
variable{d:Dl}{o0:Int}{f0:Nat}{x:Wo}{pos:Nat→Nat}{snap:Nat→Mm}{h:Option Nat}{B:Mm}{suc:Sc}
theorem If{x':Wo}{who:Nat}{t:Tk}{o:Oq}{T:Tu}(ht:x.ts[who]? =some t)(hn:t.nth<t.calls.length)(hg:t.got.length≤63)(h:DM x who t o T x'):KZ x'+1≤KZ x:=by
 obtain⟨m',-,k⟩:=h;cases T with
  |op o'=>
   subst k;have hp:=qR (x:=x) (K:=x.K) (m':=m') (lg:=x.lg++[(who,t.nth,false)]) (t':=⟨t.calls,t.nth,t.got++[fW x.m o],t.rep⟩) ht;have:pt ⟨t.calls,t.nth,t.got++[fW x.m o],t.rep⟩+1≤pt t:=by unfold pt;simp only[List.length_append,List.length_singleton];omega
   omega
  |done Q=>
   obtain⟨CR,-,rfl⟩:=k;have hp:=qR (x:=x) (K:=x.K) (m':=m') (lg:=x.lg++[(who,t.nth,true)]) (t':=⟨t.calls,t.nth+1,[],t.rep++[CR]⟩) ht;have:pt ⟨t.calls,t.nth+1,[],t.rep++[CR]⟩+1≤pt t:=by unfold pt;simp only[List.length_nil];omega
   omega
theorem DI.got(D:DI d o0 f0 x pos snap h B suc)(ok:nK d){who:Nat}{t:Tk}(ht:x.ts[who]? =some t):t.got.length≤63:=by
 obtain⟨q1,q2,q3,q4,q5⟩:=D.tkI who t ht;by_cases hp:0<pos who;·obtain⟨-,-,q6,q7,q8⟩:=q5 hp;have:=ok.a6 _ (aD t) q8;rw[q7,List.length_take,lY];omega
 ·rw[q4 aa];simp
theorem l7{o:Oq}{l:Int×List Nat}(h1:o.k≠1)(h2:o.k≠2):ia o l=true:=by unfold ia;rw[if_neg h1,if_neg h2]
theorem sO{tu:Nat→Option Oq}{i:Nat}{o:Oq}(h:tu i=some o):Hz x tu i=ia o (bf x.m o.lk):=by unfold Hz;rw[h];rfl
theorem Dl.tu_of{i:Nat}{t:Tk}(ht:x.ts[i]? =some t)(hn:t.nth<t.calls.length)(hr:d.rt (aD t)=true):d.tu x pos snap i=(d.ops (snap i) (aD t))[pos i]? :=by unfold Dl.tu;rw[ht];simp only;rw[if_neg aa,if_pos hr]
theorem DI.go(D:DI d o0 f0 x pos snap h B suc){i:Nat}{t:Tk}(ht:x.ts[i]? =some t)(hn:t.nth<t.calls.length):∃j,j<x.ts.length∧Hz x (d.tu x pos snap) j=true:=by
 have hi:=(List.getElem?_eq_some_iff.1 ht).1;obtain⟨q1,q2,q3,q4,q5⟩:=D.tkI i t ht;cases hh:h with
  |some j=>
   have hj:=D.hlt j hh;have hj':j<x.ts.length:=by have:=D.n;omega
   have hu:=List.getElem?_eq_getElem hj';generalize x.ts[j]=u at hu;obtain⟨h2,hN⟩:=(D.hold j u hu).1 hh;obtain⟨q6,q7,-⟩:=(D.tkI j u hu).2.2.2.2 aa;have hl:=d.len (snap j) (aD u);refine⟨j,hj',?_⟩;have hlt:pos j<(d.ops (snap j) (aD u)).length:=aa;have htu:=(Dl.tu_of (pos:=pos) (snap:=snap) hu q6 q7).trans (List.getElem?_eq_getElem hlt);rw[sO htu];by_cases hk:pos j≤d.S+1;·have e:=iA (S:=d.S) (m:=snap j) (bk:=d.bk (snap j)) (r:=d.r (snap j) (aD u)) (k:=pos j) aa hk;have e':(d.ops (snap j) (aD u))[pos j]=cW 1 (pos j) false:=Option.some.inj ((List.getElem?_eq_getElem hlt).symm.trans e);rw[e'];have hA:=jk (D.lk (pos j) aa hk);show ia (cW 1 (pos j) false) (bf x.m (pos j))=true;rw[hA,hh];simp only[Jb];rw[if_neg aa];rfl
   ·by_cases hk2:pos j<d.S+2+eq d.S (snap j) (d.bk (snap j)) (d.r (snap j) (aD u));·
     obtain⟨o,e,e2⟩:=rB (S:=d.S) (m:=snap j) (bk:=d.bk (snap j)) (r:=d.r (snap j) (aD u)) (k:=pos j) aa hk2;have e':(d.ops (snap j) (aD u))[pos j]=o:=Option.some.inj ((List.getElem?_eq_getElem hlt).symm.trans e);rw[e'];have hk:o.k=5∨o.k=6∨o.k=7:=by
      rcases List.mem_append.1 e2 with e2|e2;·exact .inl (iM o e2)
      ·exact tx o e2
     exact l7 aa aa
    ·obtain⟨mk,e⟩:=rC (S:=d.S) (m:=snap j) (bk:=d.bk (snap j)) (r:=d.r (snap j) (aD u)) (k:=pos j) aa aa;have e':=Option.some.inj ((List.getElem?_eq_getElem hlt).symm.trans e);rw[e'];exact l7 (by show(3:Int)≠1;decide) (by show(3:Int)≠2;decide)
  |none=>
   refine⟨i,hi,?_⟩;cases hr:d.rt (aD t)with
    |false=>
     have htu:d.tu x pos snap i=some Bh:=by unfold Dl.tu;rw[ht];simp only;rw[if_neg aa,hr];rfl
     rw[sO htu];exact l7 (by show(8:Int)≠1;decide) (by show(8:Int)≠2;decide)
    |true=>
     have htu:=Dl.tu_of (d:=d) (pos:=pos) (snap:=snap) ht hn hr;have hl:=d.len (snap i) (aD t);by_cases h0:pos i=0;·rw[h0]at htu;rw[sO (htu.trans kn)];obtain⟨l,k1,-⟩:=D.lk0;have:=jk (j:=0) k1;show ia (cW 2 0 false) (bf x.m ((0:Nat):Int))=true;rw[this];rfl
     ·have q6:=(q5 aa).2.2.1;by_cases h1:pos i=1;·rw[h1]at htu;rw[sO (htu.trans (iA (Nat.le_refl 1) aa))];have:=jk (D.lk 1 (Nat.le_refl 1) aa);show ia (cW 1 ((1:Nat):Int) false) (bf x.m ((1:Nat):Int))=true;rw[this,hh];rfl
      ·have hno:¬(2≤pos i∧pos i+2≤(d.ops (snap i) (aD t)).length):=fun e=>by have:=(D.hold i t ht).2 e;rw[hh]at this;cases this
       have e4:pos i=2*d.S+3+eq d.S (snap i) (d.bk (snap i)) (d.r (snap i) (aD t)):=aa;rw[e4]at htu;rw[sO (htu.trans na)];exact l7 (by show(4:Int)≠1;decide) (by show(4:Int)≠2;decide)
theorem Hq{S:Nat}{m m':Mm}(h:Fb S {m with lk:=List.replicate (S+2) (0,[])})(he:cr m'=cr m)(hl:m'.lk.length=S+2)(hs:∀y∈m'.lk,y.2.Pairwise (·≤·)∧y.2.length≤80000):Fb S m':=by obtain⟨i',o',b',k',s',l'⟩:=m';obtain⟨i,o,b,k,s,l⟩:=m;simp only[cr,Mm.mk.injEq]at he;obtain⟨rfl,rfl,rfl,rfl,rfl,-⟩:=he;exact⟨h.bn,h.bk,h.sh,hl,h.sl,hs⟩
theorem DI.mok(D:DI d o0 f0 x pos snap h B suc)(ok:nK d)(hf:f0≤80000):Fb d.S x.m:=by
 have hs:∀y∈x.m.lk,y.2.Pairwise (·≤·)∧y.2.length≤80000:=by
  intro y hy;obtain⟨j,hj,rfl⟩:=List.getElem_of_mem hy;have hj':=List.getElem?_eq_getElem hj;by_cases h0:j=0;·subst h0;obtain⟨l,k1,k2,k3⟩:=D.lk0;rw[k1]at hj';rw[←Option.some.inj hj'];exact⟨k2,by show l.length≤80000;omega⟩
  ·rw[D.lk j aa (by have:=D.lkn;omega)]at hj';rw[←Option.some.inj hj'];exact⟨List.Pairwise.nil,ay⟩
 have hm:=D.mem;cases h with
  |none=>have hm':cr x.m=B:=hm;exact Hq (m:=B) (ok.a7 B #[] 0 D.gd) (by rw[hm',←hm'];rfl) D.lkn hs
  |some i=>
   have hi:=D.hlt i rfl;have hi':i<x.ts.length:=by have:=D.n;omega
   have e:=hm.2 _ (List.getElem?_eq_getElem hi');refine Hq (m:=cx B ((d.ops B (aD x.ts[i])).take (pos i))) (ok.a7 B _ _ D.gd) ?_ D.lkn hs;rw[←e];rfl
theorem D5{S:Nat}(h0:1≤S){m:Mm}{bk:Ed→Option (List (Array Value))}{r:Dr}:∀o∈ee S m bk r,E9 S o∧(o.k=6→o.a=4∧∃e,r= .ok e∧o.v.bk=bk e):=by
 intro o ho;unfold ee at ho;have no6:o.k≠6→(o.k=6→o.a=4∧∃e,r= .ok e∧o.v.bk=bk e):=fun a b=>absurd b a;rcases List.mem_append.1 ho with ho|ho;·
  rcases List.mem_append.1 ho with ho|ho;·
   simp only[pu,List.mem_cons,List.mem_map,List.mem_range]at ho;rcases ho with rfl|rfl|⟨j,hj,rfl⟩;·exact⟨⟨by show(0:Int)≤0;decide,by show(0:Int)≤S+1;omega,.inr (.inl ⟨rfl,rfl,rfl⟩)⟩,no6 (by show(2:Int)≠6;decide)⟩
   ·exact⟨⟨by show(0:Int)≤1;decide,by show(1:Int)≤S+1;omega,.inl ⟨rfl,rfl⟩⟩,no6 (by show(1:Int)≠6;decide)⟩
   ·exact⟨⟨by show(0:Int)≤((2+j:Nat):Int);omega,by show((2+j:Nat):Int)≤S+1;omega,.inl ⟨rfl,rfl⟩⟩,no6 (by show(1:Int)≠6;decide)⟩
  ·rcases List.mem_append.1 ho with ho|ho;·
    have hz:o.k≠6:=by rw[iM o ho];decide
    refine⟨?_,no6 hz⟩;simp only[jT,List.mem_cons,List.mem_append,List.mem_flatMap,fp,List.mem_map,List.mem_range,List.not_mem_nil,or_false]at ho;have hS:(0:Int)≤S+1:=aa;rcases ho with rfl|rfl|⟨j,hj,rfl|⟨i,hi,rfl⟩⟩|rfl;·exact⟨Int.le_refl _,hS,.inr (.inr (.inr (.inr (.inl ⟨rfl,.inr (.inr (.inl rfl))⟩))))⟩
    ·exact⟨Int.le_refl _,hS,.inr (.inr (.inr (.inr (.inl ⟨rfl,.inr (.inr (.inr (.inl rfl)))⟩))))⟩
    ·exact⟨Int.le_refl _,hS,.inr (.inr (.inr (.inr (.inl ⟨rfl,.inr (.inr (.inr (.inr (.inl ⟨rfl,by show(0:Int)≤(j:Int);omega,by show(j:Int)<S;omega⟩))))⟩))))⟩
    ·exact⟨Int.le_refl _,hS,.inr (.inr (.inr (.inr (.inl ⟨rfl,.inr (.inr (.inr (.inr (.inr ⟨rfl,by show(0:Int)≤(j:Int);omega,by show(j:Int)<S;omega,by show(0:Int)≤(i:Int);omega⟩))))⟩))))⟩
    ·exact⟨Int.le_refl _,hS,.inr (.inr (.inr (.inr (.inl ⟨rfl,.inr (.inl rfl)⟩))))⟩
   ·have hS:(0:Int)≤S+1:=aa;cases r with
     |ok e=>
      simp only[cO,List.mem_cons,List.not_mem_nil,or_false]at ho;rcases ho with rfl|rfl|rfl;·exact⟨⟨Int.le_refl _,hS,.inr (.inr (.inr (.inr (.inl ⟨rfl,.inr (.inl rfl)⟩))))⟩,no6 BY⟩
      ·exact⟨⟨Int.le_refl _,hS,.inr (.inr (.inr (.inr (.inr (.inr (.inl ⟨rfl,.inr rfl⟩))))))⟩,no6 (by show(7:Int)≠6;decide)⟩
      ·exact⟨⟨Int.le_refl _,hS,.inr (.inr (.inr (.inr (.inr (.inl ⟨rfl,by show(3:Int)≤4;decide,.inr (.inr (.inr (.inl rfl)))⟩)))))⟩,fun _=>⟨rfl,e,rfl,rfl⟩⟩
     |full=>cases ho
     |non=>cases ho
 ·simp only[n9,List.mem_cons,List.mem_append,List.mem_map,List.mem_range,List.not_mem_nil,or_false]at ho;rcases ho with⟨j,hj,rfl⟩|rfl|rfl;·exact⟨⟨by show(0:Int)≤((2+(S-1-j):Nat):Int);omega,by show((2+(S-1-j):Nat):Int)≤S+1;omega,.inr (.inr (.inl ⟨rfl,rfl⟩))⟩,no6 (by show(3:Int)≠6;decide)⟩
  ·exact⟨⟨by show(0:Int)≤1;decide,by show(1:Int)≤S+1;omega,.inr (.inr (.inl ⟨rfl,rfl⟩))⟩,no6 (by show(3:Int)≠6;decide)⟩
  ·exact⟨⟨Int.le_refl _,by show(0:Int)≤S+1;omega,.inr (.inr (.inr (.inl ⟨rfl,rfl,rfl⟩)))⟩,no6 (by show(4:Int)≠6;decide)⟩
theorem DI.fine(D:DI d o0 f0 x pos snap h B suc)(ok:nK d)(h0:1≤d.S)(hT:Qk d x.K){i:Nat}{t:Tk}(ht:x.ts[i]? =some t):BK d.S x (d.tu x pos snap) i t∧∀o,d.tu x pos snap i=some o→o.k=6→vZ x.m o.a o.b o.c∧∀l,o.v.bk=some l→l.length≤100000:=by
 obtain⟨q1,q2,q3,q4,q5⟩:=D.tkI i t ht;by_cases hn:t.calls.length≤t.nth;·
  have e:d.tu x pos snap i=none:=by unfold Dl.tu;rw[ht];simp only;rw[if_pos hn]
  exact⟨.inl ⟨e,hn⟩,fun o e'=>by rw[e]at e';cases e'⟩
 cases hr:d.rt (aD t)with
  |false=>
   have htu:d.tu x pos snap i=some Bh:=by unfold Dl.tu;rw[ht];simp only;rw[if_neg hn,hr];rfl
   have hp:pos i=0:=by
    by_cases hp:0<pos i;·have:=(q5 hp).2.1;rw[hr]at this;cases this
    ·omega
   refine⟨.inr ⟨Bh,htu,aa,hT.bad0 t i q1 aa hr (q4 hp),⟨Int.le_refl _,by show(0:Int)≤d.S+1;omega,.inr (.inr (.inr (.inr (.inr (.inr (.inr ⟨rfl,rfl⟩))))))⟩⟩,fun o e' e6=>?_⟩;rw[htu]at e';cases e';cases e6
  |true=>
   have htu:=Dl.tu_of (d:=d) (pos:=pos) (snap:=snap) ht aa hr;have hl:=d.len (snap i) (aD t);by_cases hp:0<pos i;·
    obtain⟨-,-,q6,q7,q8⟩:=q5 hp;have ho:=List.getElem?_eq_getElem q6;have hmem:=List.getElem_mem q6;generalize(d.ops (snap i) (aD t))[pos i]=o at ho hmem;obtain⟨f1,f2⟩:=D5 h0 o hmem;have hg:=hT.good t (snap i) (pos i) i q1 q8 aa hr (Nat.le_of_lt q6) q7;have hTo:d.T (snap i) (aD t) (pos i)= .op o:=by unfold Dl.T;rw[ho]
    rw[hTo]at hg;refine⟨.inr ⟨o,htu.trans ho,aa,hg,f1⟩,fun o' e' e6=>?_⟩;rw[htu,ho]at e';cases e';obtain⟨e7,e,e8,e9⟩:=f2 e6;refine⟨.inl e7,fun l hl'=>?_⟩;have hM:=ok.a7 (snap i) (aD t) (d.ops (snap i) (aD t)).length q8;rw[List.take_length,show cx (snap i) (d.ops (snap i) (aD t))=jH (snap i) (d.bk (snap i)) (d.r (snap i) (aD t))from uM,e8]at hM;exact hM.bk l (by rw[←hl',e9];rfl)
   ·have hp0:pos i=0:=aa;have hg:=hT.good t B 0 i q1 D.gd aa hr (Nat.zero_le _) (by rw[q4 hp0];rfl);have hTo:d.T B (aD t) 0= .op (cW 2 0 false):=by unfold Dl.T;rw[show(d.ops B (aD t))[0]? =_ from kn]
    rw[hTo]at hg;rw[hp0]at htu;have htu':=htu.trans kn;refine⟨.inr ⟨_,htu',aa,hg,⟨Int.le_refl _,by show(0:Int)≤d.S+1;omega,.inr (.inl ⟨rfl,rfl,rfl⟩)⟩⟩,fun o e' e6=>?_⟩;rw[htu']at e';cases e';cases e6
theorem DI.start(x:Wo)(hn:x.ts.length=d.n)(hc:∀i t,x.ts[i]? =some t→t.calls=d.cs i∧t.nth=0∧t.got=[]∧t.rep=[])(hl:x.m.lk=List.replicate (d.S+2) (0,[]))(hg:d.gd (cr x.m))(hm:x.m.out≤max d.most x.m.out)(he:∀e∈d.e0,d.tk (cr x.m) e)(hlg:x.lg=[]):DI d x.m.out (KZ x) x (fun _=>0) (fun _=>cr x.m) none (cr x.m) []:=by
 refine⟨hn,fun i t ht=>?_,fun _ _=>rfl,fun i t ht=>⟨fun e=>(by cases e),fun e=>aa⟩,fun i e=>(by cases e),⟨[],by rw[hl];simp,List.Pairwise.nil,ay⟩,by rw[hl];simp,fun j j1 j2=>?_,rfl,hg,by simp[cr],hm,?_,ay,List.Pairwise.nil,List.nodup_nil,ay,?_,fun i t e ht h0=>aa,by rw[hlg];exact List.nodup_nil,fun i n=>?_⟩;·obtain⟨a,b,c,e⟩:=hc i t ht;exact⟨a,by rw[b];exact Nat.zero_le _,by rw[e,b];rfl,fun _=>c,fun h=>aa⟩
 ·rw[hl,List.getElem?_replicate,if_pos aa];rfl
 ·rintro e(he'|⟨q,hq⟩);·exact he e he'
  ·cases hq
 ·intro i t n C ht hC;rw[(hc i t ht).2.2.2]at hC;cases hC
 ·rw[hlg];constructor;·intro h;cases h
  ·rintro⟨t,ht,k⟩;rw[(hc i t ht).2.1]at k;omega
theorem DI.over(D:DI d o0 f0 x pos snap h B suc)(ho:∀(i:Nat)(t:Tk),x.ts[i]? =some t→t.calls.length≤t.nth):x.m.out=o0+suc.length∧x.m.out≤max d.most o0:=by
 have hn:h=none:=by
  cases hh:h with
   |none=>rfl
   |some j=>
    exfalso;have hj:=D.hlt j hh;have hj':j<x.ts.length:=by have:=D.n;omega
    have hu:=List.getElem?_eq_getElem hj';obtain⟨h2,hN⟩:=(D.hold j _ hu).1 hh;have:=((D.tkI j _ hu).2.2.2.2 aa).1;have:=ho j _ hu;omega
 subst hn;have hB:cr x.m=B:=D.mem;have e:x.m.out=B.out:=by rw[←hB];rfl
 rw[e];exact⟨D.cnt,D.most⟩
structure o7(d:Dl)(suc:Sc)(L:List (Nat×Nat))(K:Sc):Prop where
 sub:∀y∈K,y∈suc
 all:∀q∈L,∀e,(q,e)∈suc→(q,e)∈K
 key:(K.map Prod.fst).Nodup
 mem:∀y∈K,y.1∈L
theorem o7.nil:o7 d suc [] []:=⟨ay,ay,List.nodup_nil,ay⟩
theorem KT{e:Ed}(h:we (EG e)):False:=by obtain⟨-,-,c,hc,h0⟩:=h;simp[EG]at hc;exact h0 hc.symm
theorem P6(ok:nK d){l:Sc}(hp:l.Pairwise fun y z=>¬d.sm y.2 z.2){y z:(Nat×Nat)×Ed}(hy:y∈l)(hz:z∈l)(hne:y≠z):¬d.sm y.2 z.2:=by
 obtain⟨a,ha,rfl⟩:=List.getElem_of_mem hy;obtain⟨b,hb,rfl⟩:=List.getElem_of_mem hz;rw[List.pairwise_iff_getElem]at hp;rcases Nat.lt_trichotomy a b with k|k|k;·exact hp a b ha hb k
 ·subst k;exact absurd rfl hne
 ·exact fun e=>hp b a hb ha k (ok.sm _ _ e)
theorem DI.outs(D:DI d o0 f0 x pos snap h B suc)(ok:nK d){L1 L2:List (Nat×Nat)}{i n:Nat}(hL:df x.lg=L1++(i,n)::L2){K:Sc}(hK:o7 d suc L1 K):∃t C,x.ts[i]? =some t∧n<t.nth∧t.rep[n]? =some C∧((we C∧o7 d suc (L1++[(i,n)]) K)∨∃e,C=EG e∧(∀e'∈d.e0,¬d.sm e' e)∧(∀y∈K,¬d.sm y.2 e∧¬d.sm e y.2)∧o7 d suc (L1++[(i,n)]) (K++[((i,n),e)])):=by
 obtain⟨t,ht,hn⟩:=(D.logI i n).1 (by rw[hL];simp);obtain⟨q1,q2,q3,q4,q5⟩:=D.tkI i t ht;have hl:n<t.rep.length:=aa;have hC:=List.getElem?_eq_getElem hl;have hnd:=D.log;rw[hL,List.nodup_append]at hnd;have hni:(i,n)∉L1:=fun e=>hnd.2.2 _ e _ ay rfl;have huniq:∀e,((i,n),e)∈suc→t.rep[n]=EG e:=by
  intro e he;obtain⟨u,hu,k⟩:=D.scI i n e he;rw[ht]at hu;cases hu;rcases k with⟨-,k⟩|⟨k,-⟩;·rw[hC]at k;exact Option.some.inj k
  ·omega
 refine⟨t,_,ht,hn,hC,?_⟩;rcases D.rep i t n _ ht hC with hb|⟨e,he,hs⟩;·
  refine .inl ⟨hb,hK.sub,?_,hK.key,fun y hy=>List.mem_append_left _ (hK.mem y hy)⟩;intro q hq e he;rcases List.mem_append.1 hq with hq|hq;·exact hK.all q hq e he
  ·simp only[List.mem_singleton]at hq;subst hq;have:=huniq e he;rw[this]at hb;exact(KT hb).elim
 ·refine .inr ⟨e,he,fun e' he'=>D.nos _ hs e' he',fun y hy=>?_,?_,?_,?_,?_⟩;·have hys:=hK.sub y hy;have hne:y≠((i,n),e):=fun e2=>hni (by have:=hK.mem y hy;rw[e2]at this;exact this);have h1:=P6 ok D.npw hys hs hne;exact⟨h1,fun k=>h1 (ok.sm _ _ k)⟩
  ·intro y hy;rcases List.mem_append.1 hy with hy|hy;·exact hK.sub y hy
   ·simp only[List.mem_singleton]at hy;subst hy;exact hs
  ·intro q hq e' he';rcases List.mem_append.1 hq with hq|hq;·exact List.mem_append_left _ (hK.all q hq e' he')
   ·simp only[List.mem_singleton]at hq;subst hq;have e2:EG e=EG e':=he.symm.trans (huniq e' he');have e3:e=e':=by obtain⟨a1,a2,a3,a4⟩:=e;obtain⟨b1,b2,b3,b4⟩:=e';simp[EG]at e2;obtain⟨rfl,rfl,rfl,rfl⟩:=e2;rfl
    subst e3;exact List.mem_append_right _ ay
  ·rw[List.map_append,List.nodup_append];refine⟨hK.key,ay,fun a ha b hb e'=>?_⟩;simp only[List.map_cons,List.map_nil,List.mem_singleton]at hb;subst hb e';obtain⟨y,hy,e2⟩:=List.mem_map.1 ha;have:=hK.mem y hy;rw[e2]at this;exact hni this
  ·intro y hy;rcases List.mem_append.1 hy with hy|hy;·exact List.mem_append_left _ (hK.mem y hy)
   ·simp only[List.mem_singleton]at hy;subst hy;exact List.mem_append_right _ ay
theorem kx{α β:Type}{f:α→β}:∀{l:List α},(l.map f).Nodup→l.Nodup
 |[],_=>List.nodup_nil
 |a::l,h=>by rw[List.map_cons,List.nodup_cons]at h;rw[List.nodup_cons];exact⟨fun k=>h.1 (List.mem_map_of_mem k),kx h.2⟩
theorem DI.outs_all(D:DI d o0 f0 x pos snap h B suc)(ho:∀(i:Nat)(t:Tk),x.ts[i]? =some t→t.calls.length≤t.nth){K:Sc}(hK:o7 d suc (df x.lg) K):K.length=suc.length:=by
 have h1:=kx hK.key;have h2:=kx D.key;refine((List.perm_ext_iff_of_nodup h1 h2).2 fun y=>⟨hK.sub y,fun hy=>?_⟩).length_eq;obtain⟨⟨i,n⟩,e⟩:=y;obtain⟨t,ht,k⟩:=D.scI i n e hy;refine hK.all (i,n) ((D.logI i n).2 ⟨t,ht,?_⟩) e hy;rcases k with⟨k,-⟩|⟨k,k2,k3,-⟩;·exact k
 ·have:=((D.tkI i t ht).2.2.2.2 k3).1;have:=ho i t ht;omega
end
end
section
attribute[local go_sem high]ah
attribute[local simp high]ah
section
variable{R:Nat→Prop}{T:Nat}{m:Mm}{os l:List Oq}{k:Nat}{ret:Value→World→Prop}{w w1 w':World}{e:Ending}
theorem Cd.panB{B:Nat}(hU:ax T w w1)(hu:ax T w1 w')(pre post:List Oq){b:List Oq}{k':Nat}(hos:os=pre++(b++post))(hk:k=pre.length+k')(hz:Pz R B b k' e w')(hB:w.heap.size≤B):Cd R T m os l k ret w e w':=by subst hos hk;exact⟨hU.trans hu,.inl (hz.left.right.mono hB)⟩
theorem Cd.pan(hU:ax T w w1)(hu:ax T w1 w')(pre post:List Oq){b:List Oq}{k':Nat}(hos:os=pre++(b++post))(hk:k=pre.length+k')(hz:Pz R w1.heap.size b k' e w'):Cd R T m os l k ret w e w':=Cd.panB hU hu pre post hos hk hz hU.size
theorem Cd.fin{k':Nat}(hU:ax T w w')(hk:k=os.length+k')(v:Value)(he:e= .returned v)(hr:ret v w')(hT:ft R w' T ((ej (cx m os) l).take k')):Cd R T m os l k ret w e w':=⟨hU,.inr ⟨k',hk,v,he,hr,hT⟩⟩
theorem fm(k j:Int)(mk:Bool)(h:k≠6∧k≠7):cx m [cW k j mk]=m:=by show(if k=6 then _ else if k=7 then _ else m)=m;rw[if_neg h.1,if_neg h.2]
theorem Ck(a b c:Int):cx m [dI a b c]=m:=rfl
def o6:Nat→Nat→List Oq
 |0,_=>[]
 |g+1,j=>cW 1 ((2+j:Nat):Int) false::o6 g (j+1)
def eH(S:Nat)(mk:Bool):Nat→List Oq
 |0=>[]
 |g+1=>cW 3 ((2+g:Nat):Int) (mk&&(g+1==S))::eH S mk g
theorem Hk:∀(g j:Nat),o6 g j=(List.range g).map fun i=>cW 1 ((2+(j+i):Nat):Int) false
 |0,_=>rfl
 |g+1,j=>by rw[o6,Hk g,List.range_succ_eq_map,List.map_cons,List.map_map];refine congrArg _ (List.map_congr_left fun i _=>?_);show cW 1 ((2+(j+1+i):Nat):Int) false=cW 1 ((2+(j+(i+1)):Nat):Int) false;rw[show j+1+i=j+(i+1)by omega]
theorem Cu(S:Nat)(mk:Bool):∀(g i:Nat),(eH S mk g)[i]? =if i<g then some (cW 3 ((2+(g-1-i):Nat):Int) (mk&&(g-i==S)))else none
 |0,i=>by simp[eH]
 |g+1,0=>by simp[eH]
 |g+1,i+1=>by
  rw[eH,List.getElem?_cons_succ,Cu S mk g i];by_cases h:i<g;·rw[if_pos h,if_pos aa,show g+1-1-(i+1)=g-1-i by omega,show g+1-(i+1)=g-i by omega]
  ·rw[if_neg h,if_neg aa]
theorem Nx(S:Nat)(mk:Bool):eH S mk S=(List.range S).map fun i=>cW 3 ((2+(S-1-i):Nat):Int) (mk&&i==0):=by
 refine List.ext_getElem? fun i=>?_;rw[Cu];by_cases h:i<S;·
  rw[if_pos h,List.getElem?_map,List.getElem?_range h,Option.map_some];refine congrArg some (congrArg (cW 3 _) (congrArg (mk&&·) ?_));by_cases h0:i=0;·subst h0;simp
  ·rw[beq_eq_false_iff_ne.2 h0,beq_eq_false_iff_ne.2 aa]
 ·rw[if_neg h,List.getElem?_eq_none aF]
theorem yG:∀(g j:Nat),∀o∈o6 g j,o.k=1
 |0,_,o,h=>ly
 |g+1,j,o,h=>by
  rcases List.mem_cons.1 h with rfl|h;·rfl
  ·exact yG g _ o h
theorem ys(S:Nat)(mk:Bool):∀(g:Nat),∀o∈eH S mk g,o.k=3
 |0,o,h=>ly
 |g+1,o,h=>by
  rcases List.mem_cons.1 h with rfl|h;·rfl
  ·exact ys S mk g o h
theorem ou(g j:Nat):cx m (o6 g j)=m:=fF _ _ fun o ho=>by rw[yG g j o ho];decide
theorem n8(S:Nat)(mk:Bool)(g:Nat):cx m (eH S mk g)=m:=fF _ _ fun o ho=>by rw[ys S mk g o ho];decide
theorem sN(S:Nat)(h0:1≤S)(h1:S≤8)(h:ft R w T ((ej m (o6 S 0++l)).take k)):Calls Tryz.prog 147 #[.iface 280 (H T 0),S] w (Cd R T m (o6 S 0) l k (fun v _=>v= .tuple #[]) w):=by
 have HT:=Lib.hid h;clear h;go_enter Tryz.func147,Tryz.ntmps147;go_wp2_with(go_at_call 200;refine(pd S aa aa _).mono ?_;rintro e w1⟨rfl,rfl⟩);go_loopg[7]S(fun g s7 wr=>∃(j k':Nat)(pre:List Oq),s7= .int .i64 j∧j+g=S∧Hid (pre.length=j∧o6 S 0=pre++o6 g j∧k=pre.length+k'∧ft R wr T ((ej m (o6 g j++l)).take k')∧ax T w wr));case atStart=>exact⟨0,k,[],rfl,aa,Lib.hid ⟨rfl,rfl,ay,HT.out,ax.refl _ _⟩⟩
 case round=>
  obtain⟨j,k',pre,rfl,hg,HH⟩:=hrel;cases gk with
   |zero=>have hj:¬((j:Int)<(S:Int)):=aa;go_wp2;obtain⟨e1,e2,e3,e4,e5⟩:=HH.out;exact bodyPost_end (results_none rfl _ _ _) rfl (Cd.fin e5 (by rw[e2];simp only[o6,List.append_nil];exact e3) _ rfl rfl (by rw[ou];exact e4))
   |succ g=>
    have hj:(j:Int)<(S:Int):=aa;have hw:IntKind.i64.wrap (2+(j:Int))=((2+j:Nat):Int):=eD;have hl:=Lib.hid (fun W(h:ft R W T ((ej m (o6 (g+1) j++l)).take k'))=>wh (k:=k') (l:=o6 g (j+1)++l) ((2+j:Nat):Int) false h);go_wp2_with fail;refine(hl.out _ HH.out.2.2.2.1).mono ?_;rintro e w1⟨hu,hz|⟨k2,hk2,v,rfl,⟨C,rfl,-⟩,hT⟩⟩;·obtain⟨e1,e2,e3,e4,e5⟩:=HH.out;obtain⟨o,O,ho,rfl,hO⟩:=hz;exact⟨rfl,Cd.pan e5 hu pre (o6 g (j+1)) e2 e3 ⟨o,O,ho,rfl,hO⟩⟩
    ·have HH2:=Lib.hid (show(pre++[cW 1 ((2+j:Nat):Int) false]).length=j+1∧o6 S 0=(pre++[cW 1 ((2+j:Nat):Int) false])++o6 g (j+1)∧k=(pre++[cW 1 ((2+j:Nat):Int) false]).length+k2∧ft R w1 T ((ej m (o6 g (j+1)++l)).take k2)∧ax T w w1 by obtain⟨e1,e2,e3,e4,e5⟩:=HH.out;refine⟨by simp[e1],BW,by rw[List.length_append,e3,hk2];omega,?_,e5.trans hu⟩;rw[fm _ _ _ ⟨az,az⟩]at hT;exact hT);clear hT hu hk2 HH;go_wp2_with fail;go_roundg g;case measure=>omega
     case rel=>exact⟨j+1,k2,_,bD,aa,HH2⟩
theorem so(S:Nat)(h0:1≤S)(h1:S≤8)(mk:Bool)(h:ft R w T ((ej m (eH S mk S++l)).take k)):Calls Tryz.prog 149 #[.iface 280 (H T 0),S,mk] w (Cd R T m (eH S mk S) l k (fun v _=>v= .tuple #[]) w):=by
 have HT:=Lib.hid h;clear h;have hw0:IntKind.i64.wrap ((S:Int)-1)=(S:Int)-1:=eD;go_enter Tryz.func149,Tryz.ntmps149;go_wp2_with(go_at_call 200;refine(pd S aa aa _).mono ?_;rintro e w1⟨rfl,rfl⟩);go_loopg[6]S(fun g s6 wr=>∃(k':Nat)(pre:List Oq),s6= .int .i64 ((g:Int)-1)∧g≤S∧Hid (eH S mk S=pre++eH S mk g∧k=pre.length+k'∧ft R wr T ((ej m (eH S mk g++l)).take k')∧ax T w wr));case atStart=>exact⟨k,[],bD,Nat.le_refl _,Lib.hid ⟨rfl,ay,HT.out,ax.refl _ _⟩⟩
 case round=>
  obtain⟨k',pre,rfl,hg,HH⟩:=hrel;cases gk with
   |zero=>go_wp2;obtain⟨e2,e3,e4,e5⟩:=HH.out;exact bodyPost_end (results_none rfl _ _ _) rfl (Cd.fin e5 (by rw[e2];simp only[eH,List.append_nil];exact e3) _ rfl rfl (by rw[n8];exact e4))
   |succ g=>
    have e1:((g+1:Nat):Int)-1=(g:Int):=aa;rw[e1];have hj:((g:Int)≥0):=aa;have hw:IntKind.i64.wrap (2+(g:Int))=((2+g:Nat):Int):=eD;have hw2:IntKind.i64.wrap ((g:Int)-1)=(g:Int)-1:=eD;have hb:((g:Int)==(S:Int)-1)=(g+1==S):=by
     by_cases e:g+1=S;·have e2:(g:Int)=(S:Int)-1:=aa;rw[beq_iff_eq.2 e2,beq_iff_eq.2 e]
     ·have e2:¬(g:Int)=(S:Int)-1:=aa;rw[beq_eq_false_iff_ne.2 e2,beq_eq_false_iff_ne.2 e]
    have hl:=Lib.hid (fun W(h:ft R W T ((ej m (eH S mk (g+1)++l)).take k'))=>wg (k:=k') (l:=eH S mk g++l) ((2+g:Nat):Int) (mk&&(g+1==S)) h);cases mk with
     |true=>
      go_upto_region 3 with(fail);have HF:=Lib.hid (fun(W:World)(hS:(ax T wr) W)=>id (α:=Bx W 0 []) trivial);refine cQ (ax T wr) [0,1,2,3,4,11,12,13] 7 ?_;iterate 8 refine pO ?_
      refine pE ?_;refine gY 5 ?_;refine gY 6 ?_;refine bl 7 ?_;simp only[PL];go_wp2_with(go_at_call 200;refine(pd S aa aa _).mono ?_;rintro e w'⟨rfl,rfl⟩);refine ba ?_;refine gY 8 ?_;refine gY 9 ?_;refine bE [10] 1 ?_;refine pO ?_;refine pE ?_;refine bl 14 ?_;simp only[PL];go_wp2_with fail;refine(hl.out _ (HH.out.2.2.1.below cb)).mono ?_;rintro e w1⟨hu,hz|⟨k2,hk2,v,rfl,⟨C,rfl,-⟩,hT⟩⟩;·obtain⟨e2,e3,e4,e5⟩:=HH.out;obtain⟨o,O,ho,rfl,hO⟩:=hz;exact⟨rfl,Cd.pan (e5.trans (cb:ax T wr _)) hu pre (eH S true g) e2 e3 ⟨o,O,ho,rfl,hO⟩⟩
      have HH2:=Lib.hid (show eH S true S=(pre++[cW 3 ((2+g:Nat):Int) (true&&(g+1==S))])++eH S true g∧k=(pre++[cW 3 ((2+g:Nat):Int) (true&&(g+1==S))]).length+k2∧ft R w1 T ((ej m (eH S true g++l)).take k2)∧ax T w w1 by obtain⟨e2,e3,e4,e5⟩:=HH.out;refine⟨BW,MU,?_,(e5.trans (cb:ax T wr _)).trans hu⟩;rw[fm _ _ _ ⟨az,az⟩]at hT;exact hT);have hu':ax T wr w1:=(cb:ax T wr _).trans hu;clear hT hk2 HH hu;go_wp2;refine ba ?_;refine cU ?_;go_wp2_with fail;go_roundg g;case measure=>omega
      case rel=>exact⟨k2,_,bD,aa,HH2⟩
     |false=>
      go_upto_region 3 with(fail);have HF:=Lib.hid (fun(W:World)(hS:(ax T wr) W)=>id (α:=Bx W 0 []) trivial);refine cQ (ax T wr) [0,1,2,3,4,11,12,13] 7 ?_;iterate 8 refine pO ?_
      refine pE ?_;refine gN 5 ?_;refine gN 6 ?_;refine gN 7 ?_;refine gN 8 ?_;refine gN 9 ?_;refine bE [10] 1 ?_;refine pO ?_;refine pE ?_;refine bl 14 ?_;simp only[PL];go_wp2_with fail;refine(hl.out _ (HH.out.2.2.1.below cb)).mono ?_;rintro e w1⟨hu,hz|⟨k2,hk2,v,rfl,⟨C,rfl,-⟩,hT⟩⟩;·obtain⟨e2,e3,e4,e5⟩:=HH.out;obtain⟨o,O,ho,rfl,hO⟩:=hz;exact⟨rfl,Cd.pan (e5.trans (cb:ax T wr _)) hu pre (eH S false g) e2 e3 ⟨o,O,ho,rfl,hO⟩⟩
      have HH2:=Lib.hid (show eH S false S=(pre++[cW 3 ((2+g:Nat):Int) (false&&(g+1==S))])++eH S false g∧k=(pre++[cW 3 ((2+g:Nat):Int) (false&&(g+1==S))]).length+k2∧ft R w1 T ((ej m (eH S false g++l)).take k2)∧ax T w w1 by obtain⟨e2,e3,e4,e5⟩:=HH.out;refine⟨BW,MU,?_,(e5.trans (cb:ax T wr _)).trans hu⟩;rw[fm _ _ _ ⟨az,az⟩]at hT;exact hT);have hu':ax T wr w1:=(cb:ax T wr _).trans hu;clear hT hk2 HH hu;go_wp2;refine ba ?_;refine cU ?_;go_wp2_with fail;go_roundg g;case measure=>omega
      case rel=>exact⟨k2,_,bD,aa,HH2⟩
theorem KJ(n0:0≤m.out)(n1:m.out≤1000000)(h:ft R w T ((ej m ([dI 2 0 0,yJ m.out]++l)).take k)):Calls Tryz.prog 164 #[.iface 280 (H T 0),I 2,I 1,Y] w (Cd R T m [dI 2 0 0,yJ m.out] l k (fun v _=>v= .tuple #[]) w):=by
 have hlt:=h.lt;have hw:IntKind.i64.wrap (m.out+1)=m.out+1:=eD;have hl:=Lib.hid (fun W(h:ft R W T ((ej m ([dI 2 0 0,yJ m.out]++l)).take k))=>g9 (k:=k) (l:=yJ m.out::l) 2 0 0 (.inl ⟨.inr (.inl rfl),rfl,rfl⟩) h);have hs:=Lib.hid (fun k' W(h:ft R W T ((ej m (yJ m.out::l)).take k'))=>M4 (k:=k') (l:=l) m.out h);have HT:=Lib.hid h;clear h;go_enter Tryz.func164,Tryz.ntmps164;go_wp2_with fail;refine jg 1 [(101,3,_)] ?_;intro WB HB d0 _ _;go_loopg[9]1(fun g s9 wr=>g=1∧wr=WB);case atStart=>exact⟨rfl,rfl⟩
 case round=>
  obtain⟨rfl,rfl⟩:=hrel;have fHB:=HB.out;simp only[Bx,Bo]at fHB;go_wp2_with fail;refine(hl.out _ (HT.out.below d0)).mono ?_;rintro e w1⟨hu,hz|⟨k1,hk1,v,rfl,⟨C,rfl,hV⟩,hT1⟩⟩;·obtain⟨o,O,ho,rfl,hO⟩:=hz;exact⟨rfl,Cd.pan (ax.of_below d0) hu [] [yJ m.out] rfl ay ⟨o,O,ho,rfl,hO⟩⟩
  have HB1:=Lib.hid (Bx.upto hu HB.out (.inl hlt));have HT1:=Lib.hid hT1;have fB1:=HB1.out;simp only[Bx,Bo]at fB1;obtain⟨v2,v3,v4,v5,v6,v7,v8,v9,v10,v11,a5,m5,c5,a6,m6,c6,rfl,-⟩:=fq hV;have hn:(fW m (dI 2 0 0)).n=m.out:=rfl;rw[hn];clear hT1 hV fHB hn;go_wp2_with fail;refine(hs.out _ _ HT1.out).mono ?_;rintro e w2⟨hu2,hz|⟨k2,hk2,v,rfl,rfl,hT2⟩⟩;·obtain⟨o,O,ho,rfl,hO⟩:=hz;exact⟨rfl,Cd.pan ((ax.of_below d0).trans hu) hu2 [dI 2 0 0] [] rfl hk1 ⟨o,O,ho,rfl,hO⟩⟩
  have hn:(fW m (yJ m.out)).n=1:=by simp[fW,yJ,dD]
  rw[hn];go_wp2;exact bodyPost_end (results_none rfl _ _ _) rfl (Cd.fin (((ax.of_below d0).trans hu).trans hu2) (by rw[hk1,hk2];simp only[List.length_cons,List.length_nil];omega) _ rfl rfl hT2)
end
end
section
attribute[local go_sem high]ah
attribute[local simp high]ah
section
variable{R:Nat→Prop}{T:Nat}{m:Mm}{os l:List Oq}{k:Nat}{ret:Value→World→Prop}{w w1 w':World}{e:Ending}
theorem ft.low{B:Nat}{vs:List Vl}{W W':World}(h:ft R W T vs)(hT:T<B)(k:Below B W W')(hR:∀q,R q→q<B):ft R W' T vs:=by obtain⟨h1,L,h2,h3⟩:=h;exact⟨h1,L,h2.low hT k,h3.keep cM ⟨k.size,fun q hq _=>k.block q (hR q hq)⟩ fun _ h=>h⟩
theorem ax.low'{T:Nat}{w W W':World}(h:ax T w W)(k:Below w.heap.size W W'):ax T w W':=⟨k.os.trans h.os,k.tape.trans h.tape,k.output.trans h.output,Nat.le_trans h.size k.size,fun g hg hT=>(k.block g hg).trans (h.block g hg hT)⟩
def Du(j:Nat):Nat→Nat→List Oq
 |0,_=>[]
 |g+1,i=>dI 6 j i::Du j g (i+1)
theorem Bq(j:Nat):∀(g i:Nat),Du j g i=(List.range g).map fun q:Nat=>dI 6 j ((i+q:Nat):Int)
 |0,_=>rfl
 |g+1,i=>by rw[Du,Bq j g,List.range_succ_eq_map,List.map_cons,List.map_map];refine congrArg _ (List.map_congr_left fun q _=>?_);show dI 6 j ((i+1+q:Nat):Int)=dI 6 j ((i+(q+1):Nat):Int);rw[show i+1+q=i+(q+1)by omega]
theorem IG(j g i:Nat):cx m (Du j g i)=m:=fF _ _ fun o ho=>by rw[Bq]at ho;obtain⟨q,-,rfl⟩:=List.mem_map.1 ho;exact⟨BY,by show(5:Int)≠7;decide⟩
theorem Iv{j:Nat}{pl:List (Array Value)}{s:Int}(hj:m.sh[j]? =some (s,pl)):fp m j=dI 5 j 0::Du j pl.length 0:=by unfold fp;rw[Bq,List.getD_eq_getElem?_getD,hj];simp
theorem wT(j:Nat)(pl:List (Array Value))(hj:m.sh[j]? =some ((pl.length:Int),pl))(hpl:pl.length≤900)(hR:∀q,R q→q<w.heap.size)(h:ft R w T ((ej m (fp m j++l)).take k)):Calls Tryz.prog 191 #[.iface 280 (H T 0),j] w (Cd R T m (fp m j) l k (fun v W=>aV W w.heap.size 75 10 v pl) w):=by
 have hlt:=h.lt;have hro:=Iv hj;have hn5:(fW m (dI 5 j 0)).n=(pl.length:Int):=by show(pZ m 5 j 0).n=_;simp[pZ,List.getD_eq_getElem?_getD,hj]
 have hl:=Lib.hid (fun W(h:ft R W T ((ej m (fp m j++l)).take k))=>by rw[hro]at h;exact g9 (k:=k) (l:=Du j pl.length 0++l) 5 j 0 (.inr (.inl ⟨rfl,rfl⟩)) h);have HT:=Lib.hid h;have hR:=Lib.hid hR;clear h;go_enter Tryz.func191,Tryz.ntmps191;go_upto_region 2 with(fail);have HF:=Lib.hid (fun(W:World)(hS:((fun _:World=>True)) W)=>id (α:=Bx W 0 []) trivial);refine cQ ((fun _:World=>True)) [0,1,3,4,5,9] 4 ?_;iterate 6 refine pO ?_
 refine pE ?_;refine bl 2 ?_;simp only[PL];go_wp2_with(go_at_call 245;refine(tp j _).mono ?_;rintro e w1⟨rfl,hb⟩;have d1:Below w.heap.size w w1:=xT;clear hb);refine ba ?_;refine bl 6 ?_;simp only[PL];go_wp2_with fail;refine(hl.out _ (HT.out.below d1)).mono ?_;rintro e w2⟨hu,hz|⟨k1,hk1,v,rfl,⟨C,rfl,hV⟩,hT1⟩⟩;·obtain⟨o,O,ho,rfl,hO⟩:=hz;exact⟨rfl,Cd.pan (ax.of_below d1) (hu) [] (Du j pl.length 0) hro ay ⟨o,O,ho,rfl,hO⟩⟩
 obtain⟨v2,v3,v4,v5,v6,v7,v8,v9,v10,v11,a5,m5,c5,a6,m6,c6,rfl,-⟩:=fq hV;rw[show(fW m (dI 5 j 0)).n=(pl.length:Int)from hn5];have HU0:=Lib.hid ((ax.of_below d1).trans hu);have HT0:=Lib.hid hT1;clear hT1 hV hu;go_wp2;refine ba ?_;refine bE [7] 1 ?_;refine pO ?_;refine pE ?_;refine bl 8 ?_;simp only[PL];go_wp2;refine ba ?_;refine cU ?_;go_wp2_with fail;have hmx:max (pl.length:Int) 0=pl.length:=aa;try rw[hmx]
 have hL1:=Lib.hid hk1;clear hk1;have hl:=0;clear hl;go_loopg[5,16]pl.length(fun g s5 s16 wr=>∃(i k':Nat)(pre:List Oq),s16= .int .i64 i∧i+g=pl.length∧Hid (pre.length=i+1∧fp m j=pre++Du j g i∧k=pre.length+k'∧ft R wr T ((ej m (Du j g i++l)).take k')∧ax T w wr∧aV wr w.heap.size 75 10 s5 (pl.take i)));case atStart=>exact⟨0,k1,[dI 5 j 0],rfl,aa,Lib.hid ⟨rfl,by rw[hro];rfl,hL1.out,HT0.out,HU0.out,aV.nil _ _ _ _⟩⟩
 case round=>
  obtain⟨i,k',pre,rfl,hg,HH⟩:=hrel;cases gk with
   |zero=>
    have hj:¬((i:Int)<(pl.length:Int)):=aa;go_wp2;obtain⟨e1,e2,e3,e4,e5,e6⟩:=HH.out;refine bodyPost_ret (results_tmp rfl _ _ _) rfl (Cd.fin (k':=k') e5 (by rw[e3,←hro,e2];simp only[Du,List.append_nil]) _ rfl ?_ ?_);·rw[List.take_of_length_le aa]at e6;exact e6
    ·rw[show cx m (dI 5 j 0::Du j pl.length 0)=m from IG j pl.length 0];exact e4
   |succ g=>
    have hj':(i:Int)<(pl.length:Int):=aa;have hil:i<pl.length:=aa;have hv6:(fW m (dI 6 j i)).p=pl[i]:=by show(pZ m 6 j i).p=_;simp[pZ,List.getD_eq_getElem?_getD,hj,hil]
    have hl:=Lib.hid (fun W(h:ft R W T ((ej m (Du j (g+1) i++l)).take k'))=>g9 (k:=k') (l:=Du j g (i+1)++l) 6 j i (.inr (.inr rfl)) h);go_upto_region 5 with(fail);have HF:=Lib.hid (fun(W:World)(hS:((fun _:World=>True)) W)=>id (α:=Bx W 0 []) trivial);refine cQ ((fun _:World=>True)) [0,1,2,3,5,6,7] 6 ?_;iterate 7 refine pO ?_
    refine pE ?_;refine bl 4 ?_;simp only[PL];go_wp2_with(go_at_call 246;refine(tq j i _).mono ?_;rintro e w1⟨rfl,hb⟩;have d1:Below wr.heap.size wr w1:=xT;clear hb);refine ba ?_;refine bl 8 ?_;simp only[PL];go_wp2_with fail;refine(hl.out _ (HH.out.2.2.2.1.below d1)).mono ?_;rintro e w2⟨hu,hz|⟨k2,hk2,v,rfl,⟨C,rfl,hV⟩,hT1⟩⟩;·obtain⟨e1,e2,e3,e4,e5,e6⟩:=HH.out;obtain⟨o,O,ho,rfl,hO⟩:=hz;exact⟨rfl,Cd.pan (e5.trans (ax.of_below d1)) hu pre (Du j g (i+1)) e2 e3 ⟨o,O,ho,rfl,hO⟩⟩
    obtain⟨v2,v3,v4,v5,v6,v7,v8,v9,v10,v11,a5,m5,c5,a6,m6,c6,rfl,hp,ho,-⟩:=fq hV;have hpi:pl.take (i+1)=pl.take i++[#[v2,v3,v4,v5,v6,v7,v8,v9,v10,v11]]:=by rw[List.take_succ_eq_append_getElem hil,←hp,hv6]
    have HU2:=Lib.hid ((ax.of_below d1).trans hu);have HT2:=Lib.hid hT1;have HO2:=Lib.hid ((HH.out.2.2.2.2.2.upto HU2.out hlt).below ((Below.refl _ _).alloc (Nat.le_refl _) (.cells #[v2,v3,v4,v5,v6,v7,v8,v9,v10,v11] 75)));have sz2:=HU2.out.size;have szr:=HH.out.2.2.2.2.1.size;have hsl:=Lib.hid (cY w2 #[v2,v3,v4,v5,v6,v7,v8,v9,v10,v11] 75 10 _ rfl rfl (by simp only[bW,bi,bF,Bool.and_eq_true,and_true];exact ho));clear hT1 hV hu hp ho;go_wp2;refine ba ?_;refine bE [9] 3 ?_;refine pO ?_;refine pE ?_;refine bl 10 ?_;simp only[PL];go_wp2;refine ba ?_;refine bl 11 ?_;simp only[PL];go_wp2_with(at_builtin;refine pD rfl (.tmp 19) (.tmp 29) rfl w.heap.size _ (pl.take i) [#[v2,v3,v4,v5,v6,v7,v8,v9,v10,v11]] rfl HO2.out _ _ _ rfl hsl.out (by rw[List.length_take];simp;omega) aF ?_;intro v' w3 hown hbel hnil);refine ba ?_;refine bE [12] 0 ?_;refine pO ?_;refine pE ?_;refine cU ?_;go_wp2_with fail;go_roundg g;case measure=>omega
    case rel=>
     obtain⟨e1,e2,e3,e4,e5,e6⟩:=HH.out;refine⟨i+1,k2,pre++[dI 6 j i],bD,aa,Lib.hid ⟨by simp[e1],BW,MU,?_,?_,by rw[hpi];exact hown⟩⟩;·exact(HT2.out.below ((Below.refl _ _).alloc (Nat.le_refl _) _)).low hlt hbel hR.out
     ·exact((e5.trans HU2.out).trans (ax.of_below ((Below.refl _ _).alloc (Nat.le_refl _) _))).low' hbel
end
end
section
attribute[local go_sem high]ah
attribute[local simp high]ah
def PN(P:List Pe)(L:List En)(e:Ed):Bool:= !decide (gA e∈BB P++E2 L)
theorem Ki(P:List Pe)(hP:∀y∈P,xz y)(L:List En)(hL:∀y∈L,lf y)(hl:P.length≤40000)(hl2:L.length≤40000)(e:Ed)(hlo:U6 e.lo)(hr:ir e.six e.hi e.lo=true)(v u:Value)(w:World)(hv:Sl w v 10 (P.map eT))(hu:Sl w u 7 (L.map bh)):Calls Tryz.prog 286 #[v,u,.agg #[e.six,J e.hi,J e.lo]] w fun r w'=>r= .returned (.bool (PN P L e))∧Below w.heap.size w w':=by
 have hR:=Lib.hid (fun(W:World)=>kH e.six e.hi e.lo hlo W);rw[hr]at hR;have hT:=Lib.hid (fun(W:World)(k:Below w.heap.size w W)=>IS P hP L hL hl hl2 v u W (hv.below k) (hu.below k));have hG:=Lib.hid (fun(W:World)=>A2 e hlo W);unfold PN;generalize BB P++E2 L=TK at*;generalize hDk:decide (gA e∈TK)=dk at*;replace hDk:=Lib.hid hDk;clear hP hL hl hl2 hlo hr hv hu;go_enter Tryz.func286,Tryz.ntmps286;go_upto_region 1 with(fail);refine jg 1 [(34,3,_)] ?_;intro WB HB d0 sWB fHB;simp only[Bx,Bo]at fHB;have HF:=i8 HB;refine cQ (aw WB) [0] 11 ?_;refine pO ?_;refine pE ?_;refine bl 1 ?_;simp only[PL];go_wp2_with fail;refine(hR.out _).mono ?_;rintro r w1⟨rfl,hb⟩;have k1:Below WB.heap.size WB w1:=aj hb cb cs;have hk1:=aw.mk k1;have s1:=k1.size;have hB1:=Bx.mono k1 HB.out aF;simp only[Bx,Bo]at hB1;clear hb;go_wp2;refine ba ?_;refine bE [2] 9 ?_;refine pO ?_;refine pE ?_;refine gY 3 ?_;refine gY 4 ?_;refine gY 6 ?_;refine bl 5 ?_;simp only[PL];go_wp2_with fail;refine(hT.out _ (d0.trans ((cb:Below WB.heap.size WB _).mono aa))).mono ?_;rintro r w2⟨v2,D,rfl,hDl,hDm,hO,hb⟩;have k2:Below WB.heap.size WB w2:=aj hb cb cs;have hk2:=aw.mk k2;have s2:=k2.size;have hB2:=Bx.mono k2 HB.out aF;simp only[Bx,Bo]at hB2;have HD:=Lib.hid (And.intro hDl (And.intro hDm hO.sl));clear hb hDl hDm hO;go_wp2;refine ba ?_;refine bl 7 ?_;simp only[PL];go_wp2_with fail;refine(hG.out _).mono ?_;rintro r w3⟨rfl,hb⟩;have k3:Below WB.heap.size WB w3:=aj hb cb cs;have hk3:=aw.mk k3;have s3:=k3.size;have b3:=Lib.hid (hb:Below w2.heap.size w2 w3);have hB3:=Bx.mono k3 HB.out aF;simp only[Bx,Bo]at hB3;clear hb;go_wp2;refine ba ?_;refine bl 8 ?_;simp only[PL];go_wp2_with fail;refine(KO D (gA e) v2 _ (HD.out.2.2.below b3.out) (by have:=HD.out.1;omega)).mono ?_;rintro r w4⟨rfl,hb⟩;have k4:Below WB.heap.size WB w4:=aj hb cb cs;have hk4:=aw.mk k4;have s4:=k4.size;clear hb;rw[show decide (gA e∈D)=dk from(decide_eq_decide.2 (HD.out.2.1 (gA e))).trans hDk.out];go_wp2;refine ba ?_;refine gY 9 ?_;refine bE [10,11] 0 ?_;iterate 2 refine pO ?_
 refine pE ?_;refine cU ?_;go_wp2;go_ret;exact⟨rfl,d0.trans ((cb:Below WB.heap.size WB _).mono aa)⟩
noncomputable def Mn(now:Int)(P:List Pe)(L:List En)(N:List (Nt×Int))(e:Ed):Bool:= !LR e P&&(decide (tF now N e.six e.hi e.lo=0)&&PN P L e)
structure Vw(W:World)(P:List Pe)(L:List En)(N:List (Nt×Int))(vk vp vb:Value):Prop where
 k:Sl W vk 7 (L.map bh)
 p:Sl W vp 10 (P.map eT)
 b:Sl W vb 5 (N.map di)
structure DN(P:List Pe)(L:List En)(N:List (Nt×Int)):Prop where
 p:∀y∈P,xz y
 l:∀y∈L,lf y
 n:∀y∈N,Fl y
 hp:P.length≤10000
 hl:L.length≤10000
 hn:N.length≤10000
theorem Vw.below{W W':World}{P:List Pe}{L:List En}{N:List (Nt×Int)}{vk vp vb:Value}(h:Vw W P L N vk vp vb)(k:Below W.heap.size W W'):Vw W' P L N vk vp vb:=⟨h.k.below k,h.p.below k,h.b.below k⟩
theorem KV(now:Int)(P:List Pe)(L:List En)(N:List (Nt×Int))(ok:DN P L N)(e:Ed)(hh:U6 e.hi)(hlo:U6 e.lo)(hr:ir e.six e.hi e.lo=true)(vk vp vb:Value)(w:World)(hV:Vw w P L N vk vp vb):Calls Tryz.prog 257 #[.agg #[vk,vp,vb],.agg #[e.six,J e.hi,J e.lo,e.port],now] w fun r w'=>r= .returned (.bool (Mn now P L N e))∧Below w.heap.size w w':=by
 have hF:=Lib.hid (fun(W:World)(k:Below w.heap.size w W)=>Ki P ok.p L ok.l (by have:=ok.hp;omega) xS e hlo hr vp vk W (hV.p.below k) (hV.k.below k));have hU:=Lib.hid (fun(W:World)(k:Below w.heap.size w W)=>I1 now N ok.n ok.hn e.six e.hi e.lo hh hlo hr vb W (hV.b.below k));obtain⟨ak,ck,ek,-⟩:=id hV.k;obtain⟨ap,cp,ep,-⟩:=id hV.p;obtain⟨ab,cb',eb,-⟩:=id hV.b;have hC:=Lib.hid (fun(W:World)(k:Below w.heap.size w W)=>JZ P e ak ab (L.map bh).length ck (N.map di).length cb' vp W (hV.p.below k) (by have:=ok.hp;omega));unfold Mn;subst ek ep eb;clear hV ok hh hlo hr;generalize(L.map bh).length=nk at*;generalize(P.map eT).length=np at*;generalize(N.map di).length=nb at*;generalize PN P L e=f at*;generalize tF now N e.six e.hi e.lo=u at*;generalize LR e P=c at*;go_enter Tryz.func257,Tryz.ntmps257;go_wp2_with fail;refine en 2 [(300,3,_),(36,4,_)] ?_;intro WB HB d0 sWB fHB;simp only[Bx,Bo]at fHB;refine(hC.out WB d0).mono ?_;rintro r w1⟨rfl,hb⟩;have HB1:=cD hb HB;have d1:=dE d0 hb;have s1:=hb.size;have fB1:=HB1.out;simp only[Bx,Bo]at fB1;clear hb fHB;cases c with
  |true=>go_wp2;go_ret;exact⟨rfl,d1⟩
  |false=>
   go_wp2_with fail;refine(hU.out w1 d1).mono ?_;rintro r w2⟨rfl,hb⟩;have HB2:=cD hb HB1;have d2:=dE d1 hb;have s2:=hb.size;have fB2:=HB2.out;simp only[Bx,Bo]at fB2;clear hb fB1;by_cases cu:u=0;·have cu':(u==0)=true:=beq_iff_eq.2 cu;replace cu:=Lib.hid cu;go_wp2_with fail;refine(hF.out w2 d2).mono ?_;rintro r w3⟨rfl,hb⟩;have d3:=dE d2 hb;clear hb;go_wp2;go_ret;exact⟨by simp[cu.out],d3⟩
   ·have cu':(u==0)=false:=beq_eq_false_iff_ne.2 cu;replace cu:=Lib.hid cu;go_wp2;go_ret;exact⟨by simp[cu.out],d2⟩
end
end Go.Proofs.YtnncjbkepakgpaaGreat
