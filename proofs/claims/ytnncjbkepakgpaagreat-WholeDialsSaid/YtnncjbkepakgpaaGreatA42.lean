/- DIALS AT ONCE: what the plain law asks, by what a dial finds. DIALS AT ONCE: a run of them. DIALS AT ONCE: how a world of them begins, and who is out. -/
import Derived.Test.YtnncjbkepakgpaaGreatA41
namespace Go.Proofs.YtnncjbkepakgpaaGreat
open Go.RowKit Qv
set_option linter.unusedVariables false
set_option linter.unusedSimpArgs false
set_option maxRecDepth 100000
set_option maxHeartbeats 400000
section
def Qz(C:Array Value):En:=match C.toList with
 |[.bool a,.int _ b,.int _ c,.int _ d,.int _ s,.int _ f,.int _ x]=>⟨⟨a,b,c,d⟩,s,f,x⟩
 |_=>⟨⟨false,0,0,0⟩,0,0,0⟩
def OC(C:Array Value):Pe:=match C.toList with
 |[.bool s,.int _ h,.int _ l,.int _ p,.bool i,.int _ a,.int _ b,.int _ c,.int _ d,.int _ f]=>⟨⟨s,h,l,p⟩,i,a,b,c,d,f⟩
 |_=>⟨⟨false,0,0,0⟩,false,0,0,0,0,0⟩
def Rw(C:Array Value):Nt×Int:=match C.toList with
 |[.bool s,.int _ h,.int _ l,.int _ b,.int _ u]=>(⟨s,h,l,b⟩,u)
 |_=>(⟨false,0,0,0⟩,0)
def OA(C:Array Value):Ca:=match C.toList with
 |[.int _ _,.bool s,.int _ hi,.int _ lo,.int _ p,.bool s2,.int _ h2,.int _ l2,.int _ b2,.int _ now,.int _ num,.bool g]=>⟨s,hi,lo,p,s2,h2,l2,b2,now,num,g⟩
 |_=>⟨false,0,0,0,false,0,0,0,0,0,false⟩
theorem BH(y:En):Qz (bh y)=y:=rfl
theorem I0(y:Pe):OC (eT y)=y:=rfl
theorem OB(y:Nt×Int):Rw (di y)=y:=rfl
theorem pk{α:Type}{f:α→Array Value}{u:Array Value→α}(h:∀x,u (f x)=x){L:List α}{M:List (Array Value)}(e:M=L.map f):M.map u=L:=by subst e;rw[List.map_map,show u∘f=id from funext h,List.map_id]
def dm(m:Mm):List En:=(m.bk.getD []).map Qz
def eh(m:Mm):List Pe:=(ER m).map OC
def fV(m:Mm):List (Nt×Int):=(m.bn.getD []).map Rw
structure Gd(S:Nat)(m:Mm):Prop where
 sh:m.sh.length=S
 sl:∀x∈m.sh,x.1=(x.2.length:Int)
 pl:(ER m).length≤20
 p:∃P:List Pe,ER m=P.map eT∧∀y∈P,xz y
 l:∃L:List En,m.bk.getD []=L.map bh∧L.length≤20∧∀y∈L,lf y
 n:∃N:List (Nt×Int),m.bn.getD []=N.map di∧N.length≤20∧∀y∈N,Fl y
 o0:0≤m.out
 o1:m.out≤100000
section
variable{S:Nat}{m:Mm}
theorem Gd.P(h:Gd S m):ER m=(eh m).map eT∧∀y∈eh m,xz y:=by obtain⟨P,h1,h2⟩:=h.p;have e:eh m=P:=pk I0 h1;rw[e];exact⟨h1,h2⟩
theorem Gd.L(h:Gd S m):m.bk.getD []=(dm m).map bh∧(dm m).length≤20∧∀y∈dm m,lf y:=by obtain⟨L,h1,h2⟩:=h.l;have e:dm m=L:=pk BH h1;rw[e];exact⟨h1,h2⟩
theorem Gd.N(h:Gd S m):m.bn.getD []=(fV m).map di∧(fV m).length≤20∧∀y∈fV m,Fl y:=by obtain⟨N,h1,h2⟩:=h.n;have e:fV m=N:=pk OB h1;rw[e];exact⟨h1,h2⟩
theorem Gd.vw(h:Gd S m):DN (eh m) (dm m) (fV m):=by
 have h1:(eh m).length≤20:=by unfold eh;rw[List.length_map];exact h.pl
 exact⟨h.P.2,h.L.2.2,h.N.2.2,aa,by have:=h.L.2.1;omega,by have:=h.N.2.1;omega⟩
theorem Ia{l:List (Int×List (Array Value))}{x:Int×List (Array Value)}(hx:x∈l):x.2.length≤(l.flatMap (·.2)).length:=by
 induction l with
  |nil=>cases hx
  |cons y l ih=>
   rw[List.flatMap_cons,List.length_append];rcases List.mem_cons.1 hx with rfl|hx;·omega
   ·have:=ih hx;omega
theorem Gd.slen(h:Gd S m):∀x∈m.sh,x.1=(x.2.length:Int)∧x.2.length≤900:=fun x hx=>⟨h.sl x hx,by have:=Ia hx;have:=h.pl;unfold ER at this;omega⟩
end
theorem yr{L:List En}{e:Ed}(h:∃y∈L,y.e=e):∃i y,wB L e=((i:Nat):Int)∧L[i]? =some y∧y.e=e:=by
 obtain⟨y0,h1,h2⟩:=h;rcases wC L e with k|⟨i,-,k1,y,k2,k3⟩;·exact absurd h2 (AZ e L 0 k y0 h1)
 ·exact⟨i,y,k1,k2,k3⟩
theorem Ct{L:List En}{e:Ed}{i:Nat}{y:En}(h1:wB L e=(i:Int))(h2:L[i]? =some y)(h3:y.e=e):kp L e=L.set i (Cr y):=by have e1:(Cr y).e=e:=h3;unfold kp;rw[h1,Int.toNat_natCast,h2];show oS L (Cr y)=_;unfold oS;rw[e1,h1,if_pos aa,Int.toNat_natCast]
theorem GL{L:List En}{e:Ed}{z:En}(hz:z∈kp L e):z∈L∨∃y∈L,z=Cr y:=by
 unfold kp at hz;cases hq:L[(wB L e).toNat]? with
  |none=>rw[hq]at hz;exact .inl hz
  |some y=>
   rw[hq]at hz;have hy:=List.mem_of_getElem? hq;simp only[oS]at hz;split at hz;·
    rcases List.mem_or_eq_of_mem_set hz with h|h;·exact .inl h
    ·exact .inr ⟨y,hy,h⟩
   ·exact .inl hz
theorem yp(L:List En)(e:Ed):(kp L e).length=L.length:=by
 unfold kp;split;·exact IC _ _
 ·rfl
theorem GK{L:List En}{e:Ed}(h:∃y∈L,y.e=e):∃z∈kp L e,z.s=2∧z.e=e:=by obtain⟨i,y,h1,h2,h3⟩:=yr h;rw[Ct h1 h2 h3];exact⟨Cr y,List.mem_set (List.getElem?_eq_some_iff.1 h2).1 _,rfl,h3⟩
theorem Ef{L:List En}{e e':Ed}(h:∃y∈L,y.e=e)(h':∃y∈L,y.s=2∧y.e=e'):∃z∈kp L e,z.s=2∧z.e=e':=by
 obtain⟨i,y,h1,h2,h3⟩:=yr h;obtain⟨y',k1,k2,k3⟩:=h';obtain⟨j,hj,rfl⟩:=List.getElem_of_mem k1;rw[Ct h1 h2 h3];by_cases hij:i=j;·subst hij;rw[List.getElem?_eq_getElem hj]at h2;cases h2;exact⟨Cr L[i],List.mem_set hj _,rfl,k3⟩
 ·refine⟨L[j],?_,k2,k3⟩;have:(L.set i (Cr y))[j]? =some L[j]:=by rw[List.getElem?_set_ne hij];exact List.getElem?_eq_getElem hj
  exact List.mem_of_getElem? this
theorem Ns{y:En}(h:lf y):lf (Cr y):=by obtain⟨h1,h2,h3,h4,h5,h6⟩:=h;exact⟨h1,h2,h3,by show(1:Int)≤2;decide,by show(2:Int)≤3;decide,h6⟩
def Re(m:Mm)(e:Ed):Prop:=(∃y∈eh m,y.i=false∧y.e=e)∨∃y∈dm m,y.s=2∧y.e=e
noncomputable def nd(S:Nat)(mo:Int)(n:Nat)(cs:Nat→List (Array Value))(e0:List Ed):Dl where
 S:=S
 most:=mo
 n:=n
 cs:=cs
 rt C:=Do (OA C)
 r m C:=AR mo m.out (OA C).now (eh m) (dm m) (fV m)
 bk m e:=some ((kp (dm m) e).map bh)
 gd:=Gd S
 tk:=Re
 sm a b:=gA a=gA b
 e0:=e0
section
variable{S:Nat}{mo:Int}{n:Nat}{cs:Nat→List (Array Value)}{e0:List Ed}{m:Mm}{x:Array Value}{e:Ed}
theorem PI{out now:Int}{P:List Pe}{L:List En}{N:List (Nt×Int)}(h:AR mo out now P L N= .ok e):out<mo∧K5 now P L N=some e:=by
 unfold AR at h;by_cases hm:mo≤out;·rw[if_pos hm]at h;cases h
 ·rw[if_neg hm]at h;refine⟨aa,?_⟩;cases hq:K5 now P L N with
   |none=>rw[hq]at h;cases h
   |some e'=>rw[hq]at h;cases h;rfl
theorem uL(bk:Ed→Option (List (Array Value)))(L:List En)(h:bk e=some (L.map bh)):dm (jH m bk (.ok e))=L:=by show((bk e).getD []).map Qz=L;rw[h];exact pk BH rfl
theorem PG(hS:S≤8)(hm:mo≤65535):nK (nd S mo n cs e0):=by
 have key:∀m x e,AR mo m.out (OA x).now (eh m) (dm m) (fV m)= .ok e→m.out<mo∧gA e∉BB (eh m)++E2 (dm m)∧∃y∈dm m,y.e=e:=by intro m x e h;obtain⟨h1,h2⟩:=PI h;obtain⟨h3,y,hy,h4,-⟩:=yQ h2;refine⟨h1,?_,y,hy,h4⟩;unfold Mn PN at h3;simp only[Bool.and_eq_true,Bool.not_eq_true',decide_eq_false_iff_not]at h3;exact h3.2.2
 refine⟨fun a b h=>h.symm,?_,?_,?_,?_,?_,?_,?_⟩;·
  intro m x e e' hg hr ht hs;obtain⟨-,h2,-⟩:=key m x e hr;apply h2;rw[List.mem_append];rw[←show gA e'=gA e from hs];rcases ht with⟨y,hy,hi,rfl⟩|⟨y,hy,hi,rfl⟩;·exact .inl (List.mem_map.2 ⟨y,List.mem_filter.2 ⟨hy,by rw[hi];rfl⟩,rfl⟩)
  ·exact .inr (List.mem_map.2 ⟨y,List.mem_filter.2 ⟨hy,by rw[hi];rfl⟩,rfl⟩)
 ·intro m x e hg hr;obtain⟨-,-,h3⟩:=key m x e hr;refine .inr ?_;rw[uL _ _ rfl];exact GK h3
 ·intro m x e e' hg hr ht;obtain⟨-,-,h3⟩:=key m x e hr;rcases ht with ht|ht;·exact .inl ht
  ·refine .inr ?_;rw[uL _ _ rfl];exact Ef h3 ht
 ·intro m x e hg hr;exact(key m x e hr).1
 ·intro m x e hg hr;obtain⟨h1,-,-⟩:=key m x e hr;refine⟨hg.sh,hg.sl,hg.pl,hg.p,⟨kp (dm m) e,rfl,?_,?_⟩,hg.n,?_,?_⟩;·rw[yp];exact hg.L.2.1
  ·intro y hy;rcases GL hy with h|⟨z,hz,rfl⟩;·exact hg.L.2.2 y h
   ·exact Ns (hg.L.2.2 z hz)
  ·have:=hg.o0;show 0≤m.out+1;omega
  ·show m.out+1≤100000;omega
 ·intro m x hg;show(ee S m _ _).length≤64;rw[uK];unfold eq jT;have h1:((List.range S).flatMap (fp m)).length≤S+(ER m).length:=by
   have h2:∀k,k≤m.sh.length→((List.range k).flatMap (fp m)).length=k+((m.sh.take k).flatMap (·.2)).length:=by
    intro k hk;induction k with
     |zero=>rfl
     |succ k ih=>rw[List.range_succ,List.flatMap_append,List.length_append,ih aa,List.take_succ_eq_append_getElem aa,List.flatMap_append,List.length_append];simp only[List.flatMap_cons,List.flatMap_nil,List.append_nil,fp,List.length_cons,List.length_map,List.length_range,List.getD_eq_getElem?_getD];rw[List.getElem?_eq_getElem aa];simp only[Option.getD_some];omega
   have h3:=h2 S (by rw[hg.sh];exact Nat.le_refl _);rw[h3,List.take_of_length_le (by rw[hg.sh];exact Nat.le_refl _)];exact Nat.le_refl _
  have h2:(cO m (fun e=>some ((kp (dm m) e).map bh)) (AR mo m.out (OA x).now (eh m) (dm m) (fV m))).length≤3:=by generalize AR mo m.out (OA x).now (eh m) (dm m) (fV m)=r;cases r<;>simp[cO]
  have h3:=hg.pl;simp only[List.length_append,List.length_cons,List.length_nil];show 2*S+4+_≤64;have h4:(cO m ((nd S mo n cs e0).bk m) ((nd S mo n cs e0).r m x)).length≤3:=h2;omega
 ·intro m x k hg;have inv:∀(l:List Oq)(q:Mm),(∀o∈l,o.k=6→o.a=4∧∃L:List En,o.v.bk=some (L.map bh)∧L.length≤20)→q.bn=m.bn∧q.sh=m.sh∧(q.bk.getD []).length≤20→(cx q l).bn=m.bn∧(cx q l).sh=m.sh∧((cx q l).bk.getD []).length≤20:=by
   intro l;induction l with
    |nil=>exact fun q _ h=>h
    |cons o l ih=>
     intro q ho hq;show(cx (ko q o) l).bn=_∧_;refine ih _ (fun o h=>ho o (by simp[h])) ?_;unfold ko;split;·rename_i h6;obtain⟨h4,L,hL,hl⟩:=ho o ay h6;unfold iY;rw[if_pos h4];exact⟨hq.1,hq.2.1,by show(o.v.bk.getD []).length≤20;rw[hL];simpa using hl⟩
     ·split;·
       unfold dD;repeat' split
       all_goals exact hq
      ·exact hq
  have hops:∀o∈((nd S mo n cs e0).ops m x).take k,o.k=6→o.a=4∧∃L:List En,o.v.bk=some (L.map bh)∧L.length≤20:=by
   intro o ho h6;have ho:=List.mem_of_mem_take ho;have hS0:1≤S∨S=0:=aa;have hf:o.a=4∧∃e,o.v.bk=some ((kp (dm m) e).map bh):=by
    have ho':o∈ee S m (fun e=>some ((kp (dm m) e).map bh)) (AR mo m.out (OA x).now (eh m) (dm m) (fV m)):=ho;unfold ee at ho';rcases List.mem_append.1 ho' with ho'|ho';·
     rcases List.mem_append.1 ho' with ho'|ho';·rcases pv o ho' with h|h<;>(rw[h]at h6;cases h6)
     ·rcases List.mem_append.1 ho' with ho'|ho';·rw[iM o ho']at h6;cases h6
      ·generalize AR mo m.out (OA x).now (eh m) (dm m) (fV m)=r at ho';cases r with
        |ok e=>
         simp only[cO,List.mem_cons,List.not_mem_nil,or_false]at ho';rcases ho' with rfl|rfl|rfl;·cases h6
         ·cases h6
         ·exact⟨rfl,e,rfl⟩
        |full=>cases ho'
        |non=>cases ho'
    ·rcases ni o ho' with h|h<;>(rw[h]at h6;cases h6)
   obtain⟨h1,e,h2⟩:=hf;exact⟨h1,_,h2,by rw[yp];exact hg.L.2.1⟩
  obtain⟨i1,i2,i3⟩:=inv _ m hops ⟨rfl,rfl,by rw[hg.L.1];simpa using hg.L.2.1⟩;refine⟨?_,?_,?_,by simp[nd],?_,?_⟩;·intro l hl;have:m.bn=some l:=i1.symm.trans hl;have h1:=hg.N.1;rw[this]at h1;have h2:l=_:=h1;rw[h2,List.length_map];have:=hg.N.2.1;omega
  ·intro l hl;have e1:(cx m (((nd S mo n cs e0).ops m x).take k)).bk=some l:=hl;rw[e1]at i3;have:l.length≤20:=i3;omega
  ·show(cx m (((nd S mo n cs e0).ops m x).take k)).sh.length=S;rw[i2];exact hg.sh
  ·intro y hy;have hy':y∈(cx m (((nd S mo n cs e0).ops m x).take k)).sh:=hy;rw[i2]at hy';exact(hg.slen y hy').2
  ·intro y hy;have hy':y∈List.replicate (S+2) ((0:Int),([]:List Nat)):=hy;obtain rfl:=(List.mem_replicate.1 hy').2;exact⟨List.Pairwise.nil,ay⟩
theorem RI(K:Array Value)(hK:K.size=16)(hK1:bB K=true)(hS0:1≤S)(hS:S≤8)(h1:K[1]'xW= .int .i64 mo)(h2:K[2]'xW= .int .i64 S)(hcs:∀i,∀C∈cs i,∃y,C=pL y):Qk (nd S mo n cs e0) K:=by
 have e104:∀(args:Array Value)(w:World),(callFunc 104 args).run Tryz.prog w= .ok (.enter 104 args) w:=enters_of Tryz.func104 af rfl;have e103:∀(args:Array Value)(w:World),(callFunc 103 args).run Tryz.prog w= .ok (.enter 103 args) w:=enters_of Tryz.func103 af rfl;have call:∀(t:Tk)i,t.calls=cs i→t.nth<t.calls.length→∃y,aD t=pL y:=by intro t i ht hl;refine hcs i _ ?_;rw[←ht];unfold aD;rw[List.getD_eq_getElem?_getD,List.getElem?_eq_getElem hl];exact List.getElem_mem hl
 have bell:∀y,vY (K++pL y) S mo y.now:=by
  intro y;refine⟨by simp[hK,pL],ey hK1 rfl,?_,?_,?_⟩;·rw[Array.getElem_append_left xW];exact h1
  ·rw[Array.getElem_append_left xW];exact h2
  ·have:(K++pL y)[25]? =some (.int .i64 y.now):=by rw[Array.getElem?_append_right xW,hK];rfl
   exact(Array.getElem?_eq_some_iff.1 this).2
 have wrong:∀(y:Ca)(k:Nat)(gs:List Vl)(T:Tu)(hgs:gs=(ej ⟨0,0,none,none,[],[]⟩ [Bh]).take k)(hT:∀e w' R B TT w,Qj B R TT ⟨0,0,none,none,[],[]⟩ [Bh] [] k (fun v _=>∃C,v= .agg C∧we C) w e w'→B=w.heap.size→LO R T w TT e w')(t:Tk),t.got=gs→t.nth<t.calls.length→aD t=pL y→Do y=false→eJ K t T:=by intro y k gs T hgs hT t ht hl hc hr;refine GZ K hK hK1 t hl 103 (K++pL y) T (fun w=>by rw[hc];exact pM K hK hK1 y 103 (.inr ⟨rfl,hr⟩) w) ?_;intro R w vg hR hs;refine GX 103 e103 (K++pL y) R hR t.got vg hs T ?_;intro W TT hTT hb htp;rw[ht,hgs]at htp;exact(I7 (l:=[]) (K++pL y) (bell y).n (bell y).o (fun q hq=>Nat.lt_of_lt_of_le (hR q hq) hb.size) htp).mono fun e w' h=>hT e w' R _ TT W h rfl
 refine⟨?_,?_,?_⟩;·
  intro t m k i ht hg hl hr hk hgot;obtain⟨y,hy⟩:=call t i ht hl;have hr':Do y=true:=by have:=hr;rw[hy]at this;exact this
  refine GZ K hK hK1 t hl 104 (K++pL y) _ (fun w=>by rw[hy];exact pM K hK hK1 y 104 (.inl ⟨rfl,hr'⟩) w) ?_;intro R w vg hR hs;refine GX 104 e104 (K++pL y) R hR t.got vg hs _ ?_;intro W TT hTT hb htp;rw[hgot,hy]at htp;have hop:(nd S mo n cs e0).ops m (pL y)=ee S m (fun e=>some ((kp (dm m) e).map bh)) (AR mo m.out y.now (eh m) (dm m) (fV m)):=rfl;rw[hy]at hk;rw[hy];unfold Dl.T;rw[hop]at htp hk⊢;have hd:=J4 (w:=W) (T:=TT) (R:=R) (m:=m) (l:=[]) (k:=k) (K++pL y) S hS0 mo y.now (bell y) hg.sh hS hg.slen (fun q hq=>Nat.lt_of_lt_of_le (hR q hq) hb.size) (eh m) (dm m) (fV m) hg.vw hg.P.1 hg.L.1 hg.N.1 hg.o0 (by have:=hg.o1;omega) (fun e=>some ((kp (dm m) e).map bh)) (fun _=>rfl) (AR mo m.out y.now (eh m) (dm m) (fV m)) rfl (by rw[List.append_nil];exact htp);refine hd.mono fun e w' h=>?_;generalize hO:ee S m (fun e=>some ((kp (dm m) e).map bh)) (AR mo m.out y.now (eh m) (dm m) (fV m))=O at*;obtain⟨u1,u2⟩:=h;refine⟨u1,?_⟩;rcases u2 with⟨o,OO,k1,k2,k3⟩|⟨k',k1,v,k2,⟨C,rfl,c1,c2,c3⟩,-⟩;·rw[k1];exact⟨OO,k2,k3⟩
  ·rw[List.getElem?_eq_none aa];exact⟨C,k2,c2,c3,c1⟩
 ·intro t i ht hl hr hgot;obtain⟨y,hy⟩:=call t i ht hl;have hr':Do y=false:=by have:=hr;rw[hy]at this;exact this
  refine wrong y 0 [] _ rfl ?_ t hgot hl hy hr';rintro e w' R B TT w⟨u1,u2⟩rfl;refine⟨u1,?_⟩;rcases u2 with⟨o,OO,k1,k2,k3⟩|⟨k',k1,-⟩;·cases k1;exact⟨OO,k2,k3⟩
  ·exfalso;simp only[List.length_singleton]at k1;omega
 ·intro t i ht hl hr hgot;obtain⟨y,hy⟩:=call t i ht hl;have hr':Do y=false:=by have:=hr;rw[hy]at this;exact this
  refine wrong y 1 [zV] _ rfl ?_ t hgot hl hy hr';rintro e w' R B TT w⟨u1,u2⟩rfl;refine⟨u1,?_⟩;rcases u2 with⟨o,OO,k1,k2,k3⟩|⟨k',k1,v,k2,⟨C,rfl,c1⟩,-⟩;·simp at k1
  ·exact⟨C,k2,c1.1,c1.2.1,c1⟩
end
end
def DP(d:Dl)(K:Array Value)(o0:Int)(f0 k:Nat)(x:Wo):Prop:=∃pos snap h B suc,DI d o0 f0 x pos snap h B suc∧x.K=K∧k+KZ x≤f0∧x.lg.length=k
def DQ(d:Dl)(o0:Int)(f0 k:Nat)(x:Wo)(tu:Nat→Option Oq):Prop:=∃pos snap h B suc,DI d o0 f0 x pos snap h B suc∧tu=d.tu x pos snap
theorem BA{x x':Wo}{who:Nat}{t:Tk}{o:Oq}{T:Tu}(h:DM x who t o T x'):x'.K=x.K∧x'.lg.length=x.lg.length+1:=by
 obtain⟨m',-,h⟩:=h;cases T with
  |op _=>subst h;simp
  |done Q=>obtain⟨CR,-,rfl⟩:=h;simp
theorem D6(d:Dl)(ok:nK d)(K:Array Value)(hT:Qk d K)(h0:1≤d.S)(h1:d.S≤8)(hn:d.n≤8)(hcs:∀i,(d.cs i).length≤12)(f0:Nat)(hf:f0≤2999)(o0:Int)(x0:Wo)(hx:DP d K o0 f0 0 x0)(picks:List Int)(hpk:∀x∈picks,-9223372036854775808≤x∧x≤9223372036854775807)(v:Value){R:Nat→Prop}(X0:Array Value)(w:World)(hv:Fp w v picks)(h:nH R w X0 x0):Calls Tryz.prog 9 #[.agg X0,v,I 3000] w fun e w'=>∃X x pos snap h B suc,e= .returned (.agg X)∧nH (Rn R w.heap.size) w' X x∧DI d o0 f0 x pos snap h B suc∧(∀(i:Nat)(t:Tk),x.ts[i]? =some t→t.calls.length≤t.nth)∧x.lg.length≤3000∧Below w.heap.size w w':=by
 have hP:∀k x,k<3000→DP d K o0 f0 k x→∃tu,pB d.S picks (DP d K o0 f0) (DQ d o0 f0) k x tu:=by
  rintro k x hk⟨pos,snap,h,B,suc,D,hK,hp,hl⟩;refine⟨d.tu x pos snap,⟨⟨pos,snap,h,B,suc,D,rfl⟩,D.mok ok aa,by rw[D.n];omega,aa,?_,?_⟩⟩;·
   intro i t ht;have hf:=D.fine ok h0 (hK▸hT) ht;have hq:=D.tkI i t ht;have hc:t.calls.length≤12:=by rw[hq.1];exact hcs i
   refine⟨hf.1,aa,by have:=D.got ok ht;omega,by rw[hq.2.2.1];have:=hq.2.1;omega,hf.2⟩
  ·intro who t o ht ho hon _;obtain⟨T,k1,k2⟩:=D.step ok ht ho hon;refine⟨T,k1 _ (hK▸hT),fun x' hx'=>?_⟩;obtain⟨pos',snap',h',B',suc',D'⟩:=k2 x' hx';have hq:=D.tkI who t ht;have hnth:t.nth<t.calls.length:=by
    have:=D.fine ok h0 (hK▸hT) ht;rcases this.1 with⟨e,-⟩|⟨_,-,e,-⟩;·rw[ho]at e;cases e
    ·exact e
   have hphi:=If ht hnth (D.got ok ht) hx';obtain⟨e1,e2⟩:=BA hx';exact⟨pos',snap',h',B',suc',D',by rw[e1,hK],aa,aa⟩
 refine(PU d.S h0 h1 3000 (Nat.le_refl _) picks hpk (DP d K o0 f0) (DQ d o0 f0) hP x0 hx v X0 w hv h).mono ?_;rintro e w'⟨X,x,k,tu,rfl,hW,⟨pos,snap,h,B,suc,D,hK,hp,hl⟩,hend,hk,hb⟩;rcases hend with rfl|⟨hR,hon⟩;·exfalso;omega
 ·obtain⟨pos',snap',h',B',suc',D',rfl⟩:=hR.q;refine⟨X,x,pos',snap',h',B',suc',rfl,hW,D',fun i t ht=>?_,aa,hb⟩;refine Classical.byContradiction fun hc=>?_;obtain⟨j,hj,hj2⟩:=D'.go ht aa;have:j∈ef x (d.tu x pos' snap') x.ts.length:=by unfold ef;rw[List.mem_filter,List.mem_range];exact⟨hj,hj2⟩
  rw[hon]at this;cases this
section
def ib(P:List Pe):List Ed:=(P.filter fun y=>decide (y.i=false)).map (·.e)
def iQ(L:List En):List Ed:=(L.filter fun y=>decide (y.s=2)).map (·.e)
theorem H8{P:List Pe}{k:Nat}(hk:k<P.length):ib (P.take (k+1))=if P[k].i=false then ib (P.take k)++[P[k].e]else ib (P.take k):=by
 rw[List.take_succ_eq_append_getElem hk];unfold ib;rw[List.filter_append,List.map_append];by_cases h:P[k].i=false;·rw[if_pos h];simp[h]
 ·rw[if_neg h];simp[h]
theorem EJ{L:List En}{k:Nat}(hk:k<L.length):iQ (L.take (k+1))=if L[k].s=2 then iQ (L.take k)++[L[k].e]else iQ (L.take k):=by
 rw[List.take_succ_eq_append_getElem hk];unfold iQ;rw[List.filter_append,List.map_append];by_cases h:L[k].s=2;·rw[if_pos h];simp[h]
 ·rw[if_neg h];simp[h]
theorem KW(P:List Pe)(L:List En):(ib P++iQ L).length=gF false P+je 2 L:=by unfold ib iQ gF je;rw[List.length_append,List.length_map,List.length_map]
theorem Mo{P:List Pe}{L:List En}(hP:∀y∈P,LN y)(hL:∀y∈L,LJ y):∀e∈ib P++iQ L,U6 e.hi∧U6 e.lo:=by
 intro e he;rcases List.mem_append.1 he with h|h<;>obtain⟨y,hy,rfl⟩:=List.mem_map.1 h;·exact hP y (List.mem_filter.1 hy).1
 ·exact hL y (List.mem_filter.1 hy).1
def stM(c:Cv)(N L:Option (List (Array Value)))(P:List Pe)(Le:List En)(sh:List (Int×List (Array Value)))(S:Nat):Mm:=⟨gF true P,(gF false P:Int)+(je 2 Le:Int),N,L,sh,List.replicate (S+2) (0,[])⟩
section
variable{c:Cv}{N L:Option (List (Array Value))}{Nn:List (Nt×Int)}{Le:List En}{P:List Pe}{S:Nat}{sh:List (Int×List (Array Value))}{ls:List (List (Array Value))}{nq:Nat}
theorem LD(h:(sh.flatMap (·.2)).Perm (P.map eT)):sh.flatMap (·.2)=((sh.flatMap (·.2)).map OC).map eT:=by
 rw[List.map_map];symm;have:∀x∈sh.flatMap (·.2),(eT∘OC) x=id x:=by intro x hx;obtain⟨y,-,rfl⟩:=List.mem_map.1 (h.mem_iff.1 hx);rfl
 rw[List.map_congr_left this,List.map_id]
theorem Ac(h:(sh.flatMap (·.2)).Perm (P.map eT)):((sh.flatMap (·.2)).map OC).Perm P:=by have:=h.map OC;rwa[pk I0 rfl]at this
theorem IP(hl:Jh c Nn Le P ls nq)(hNU:∀y∈Nn,Fm y)(hN:N.getD []=Nn.map di)(hL:L.getD []=Le.map bh)(hS:c.s=S)(h1:sh.length=S)(h2:∀x∈sh,x.1=(x.2.length:Int))(h3:(sh.flatMap (·.2)).Perm (P.map eT)):Gd S (cr (stM c N L P Le sh S)):=by
 have hp:=hl.st.p.1;have n1:=wu false P;have n2:=wt 2 Le;have n3:=hl.p;have n4:=hl.l;refine⟨h1,h2,?_,⟨(ER (cr (stM c N L P Le sh S))).map OC,LD h3,fun y hy=>(hp y ((Ac h3).mem_iff.1 hy)).1⟩,⟨Le,hL,hl.l,hl.st.l.1⟩,⟨Nn,hN,hl.n,fun y hy=>?_⟩,?_,?_⟩;·show(sh.flatMap (·.2)).length≤20;rw[h3.length_eq,List.length_map];exact hl.p
 ·have hu:=hNU y hy;have hr:=hl.st.n.1 y hy;exact⟨⟨hu.1,hu.2,hr.1.2.1,by have:=hr.1.2.2.1;unfold gq at this;split at this<;>omega⟩,Da hu.1 hu.2 hr.1⟩
 ·show 0≤(gF false P:Int)+(je 2 Le:Int);omega
 ·show(gF false P:Int)+(je 2 Le:Int)≤100000;omega
theorem IQ(hL:L.getD []=Le.map bh)(h3:(sh.flatMap (·.2)).Perm (P.map eT)):∀e∈ib P++iQ Le,Re (cr (stM c N L P Le sh S)) e:=by
 intro e he;rcases List.mem_append.1 he with h|h<;>obtain⟨y,hy,rfl⟩:=List.mem_map.1 h<;>obtain⟨hy,hs⟩:=List.mem_filter.1 hy;·exact .inl ⟨y,(Ac h3).mem_iff.2 hy,by simpa using hs,rfl⟩
 ·refine .inr ⟨y,?_,by simpa using hs,rfl⟩;show y∈(L.getD []).map Qz;rw[pk BH hL];exact hy
theorem vt:∀(ls:List (List (Array Value))),((ls.map zT).map pt).sum=64*tM ls
 |[]=>rfl
 |l::ls=>by rw[List.map_cons,List.map_cons,List.sum_cons,vt ls];simp[tM,pt,zT];omega
theorem IN(hl:Jh c Nn Le P ls nq)(hNU:∀y∈Nn,Fm y)(hN:N.getD []=Nn.map di)(hL:L.getD []=Le.map bh)(hS:c.s=S)(h1:sh.length=S)(h2:∀x∈sh,x.1=(x.2.length:Int))(h3:(sh.flatMap (·.2)).Perm (P.map eT)):DP (nd S c.mo ls.length (fun i=>ls.getD i []) (ib P++iQ Le)) (ld c) ((gF false P:Int)+(je 2 Le:Int)) (64*tM ls) 0 ⟨ld c,stM c N L P Le sh S,ls.map zT,[]⟩:=by
 have hD:=DI.start (d:=nd S c.mo ls.length (fun i=>ls.getD i []) (ib P++iQ Le)) ⟨ld c,stM c N L P Le sh S,ls.map zT,[]⟩ (by simp[nd]) (fun i t ht=>?_) rfl (IP hl hNU hN hL hS h1 h2 h3) (by show _≤max c.mo _;omega) (IQ (c:=c) (sh:=sh) hL h3) rfl;·have e:KZ ⟨ld c,stM c N L P Le sh S,ls.map zT,[]⟩=64*tM ls:=vt ls;rw[e]at hD;exact⟨_,_,_,_,_,hD,rfl,by rw[e];omega,rfl⟩
 ·have ht':(ls.map zT)[i]? =some t:=ht;rw[List.getElem?_map]at ht';obtain⟨l,hl',rfl⟩:=Option.map_eq_some_iff.1 ht';refine⟨?_,rfl,rfl,rfl⟩;show l=ls.getD i [];rw[List.getD_eq_getElem?_getD,hl'];rfl
theorem Ms{o0:Int}{f0:Nat}{x:Wo}{pos:Nat→Nat}{snap:Nat→Mm}{h:Option Nat}{B:Mm}{suc:Sc}{mo:Int}{n:Nat}{cs:Nat→List (Array Value)}{e0:List Ed}(D:DI (nd S mo n cs e0) o0 f0 x pos snap h B suc){q:Nat×Nat}{e:Ed}(he:(q,e)∈suc):U6 e.hi∧U6 e.lo:=by
 rcases D.tkn e (.inr ⟨q,he⟩)with⟨y,hy,-,rfl⟩|⟨y,hy,-,rfl⟩;·have:=(Gd.P D.gd).2 y hy;exact⟨this.1,this.2.1⟩
 ·have:=(Gd.L D.gd).2.2 y hy;exact⟨this.1,this.2.1⟩
noncomputable def Me(c:Cv)(Le:List En)(P:List Pe)(ls:List (List (Array Value))):Dl:=nd c.s.toNat c.mo ls.length (fun i=>ls.getD i []) (ib P++iQ Le)
def tN(c:Cv)(Le:List En)(P:List Pe)(ls:List (List (Array Value)))(x:Wo)(suc:Sc):Prop:=(∃f0 pos snap h B,DI (Me c Le P ls) ((gF false P:Int)+(je 2 Le:Int)) f0 x pos snap h B suc)∧(∀(i:Nat)(t:Tk),x.ts[i]? =some t→t.calls.length≤t.nth)∧x.lg.length≤3000
theorem Lt:∀{ls:List (List (Array Value))}{i:Nat},(∀l∈ls,l.length≤12)→(ls.getD i []).length≤12:=by
 intro ls i h;rw[List.getD_eq_getElem?_getD];cases hi:ls[i]? with
  |none=>simp
  |some l=>exact h l (List.mem_of_getElem? hi)
theorem Lm(hl:Jh c Nn Le P ls nq)(hNU:∀y∈Nn,Fm y)(hN:N.getD []=Nn.map di)(hL:L.getD []=Le.map bh)(h1:sh.length=c.s.toNat)(h2:∀x∈sh,x.1=(x.2.length:Int))(h3:(sh.flatMap (·.2)).Perm (P.map eT))(hd:∀i,∀C∈ls.getD i [],∃y,C=pL y)(picks:List Int)(hpk:∀x∈picks,-9223372036854775808≤x∧x≤9223372036854775807)(v:Value){R:Nat→Prop}(X0:Array Value)(w:World)(hv:Fp w v picks)(h:nH R w X0 ⟨ld c,stM c N L P Le sh c.s.toNat,ls.map zT,[]⟩):Calls Tryz.prog 9 #[.agg X0,v,I 3000] w fun e w'=>∃X x suc,e= .returned (.agg X)∧nH (Rn R w.heap.size) w' X x∧tN c Le P ls x suc∧Below w.heap.size w w':=by have hS:=hl.st.cv.1.2.2.1;have hS':c.s=(c.s.toNat:Int):=aa;refine(D6 (Me c Le P ls) (PG aa hl.st.cv.1.2.1.2) (ld c) (RI (ld c) rfl rfl aa aa rfl (by show Value.int .i64 c.s=_;rw[←hS']) hd) (by show 1≤c.s.toNat;omega) (by show c.s.toNat≤8;omega) hl.lc (fun i=>Lt hl.le) (64*tM ls) (by have:=hl.sm;omega) _ _ (IN hl hNU hN hL hS' h1 h2 h3) picks hpk v X0 w hv h).mono ?_;rintro e w'⟨X,x,pos,snap,h,B,suc,rfl,hW,D,ho,hlg,hb⟩;exact⟨X,x,suc,rfl,hW,⟨⟨_,pos,snap,h,B,D⟩,ho,hlg⟩,hb⟩
section
variable{x:Wo}{suc:Sc}
theorem tN.calls(h:tN c Le P ls x suc):∀i n,(i,n)∈df x.lg→∃t,x.ts[i]? =some t∧n<t.nth∧t.rep.length=t.nth∧t.nth≤t.calls.length:=by obtain⟨⟨f0,pos,snap,h,B,D⟩,-,-⟩:=h;intro i n hm;obtain⟨t,ht,hn⟩:=(D.logI i n).1 hm;have q:=D.tkI i t ht;exact⟨t,ht,hn,q.2.2.1,q.2.1⟩
theorem tN.len(h:tN c Le P ls x suc)(hls:ls.length≤8):x.ts.length≤8:=by obtain⟨⟨f0,pos,snap,h,B,D⟩,-,-⟩:=h;have:=D.n;show x.ts.length≤8;rw[this];exact hls
theorem tN.row(h:tN c Le P ls x suc)(hl:Jh c Nn Le P ls nq)(hPU:∀y∈P,LN y)(hLU:∀y∈Le,LJ y){k:Nat}(hk:k<(df x.lg).length){K:Sc}(hK:o7 (Me c Le P ls) suc ((df x.lg).take k) K){row:Array Value}(hr:Jj x (df x.lg)[k] row):(∃q:Int,row[14]? =some (.int .i64 q)∧q≠0∧o7 (Me c Le P ls) suc ((df x.lg).take (k+1)) K)∨∃e:Ed,(row[14]? =some (.int .i64 0)∧row[15]? =some (.bool e.six)∧row[16]? =some (.int .u64 e.hi)∧row[17]? =some (.int .u64 e.lo)∧row[18]? =some (.int .i64 e.port))∧(U6 e.hi∧U6 e.lo)∧(∀e'∈(ib P++iQ Le)++K.map Prod.snd,(U6 e'.hi∧U6 e'.lo)∧gA e'≠gA e)∧o7 (Me c Le P ls) suc ((df x.lg).take (k+1)) (K++[((df x.lg)[k],e)]):=by
 obtain⟨⟨f0,pos,snap,h,B,D⟩,-,-⟩:=h;have ok:nK (Me c Le P ls):=PG (by have:=hl.st.cv.1.2.2.1;omega) hl.st.cv.1.2.1.2;have hs:=List.take_succ_eq_append_getElem hk;have hLL:df x.lg=(df x.lg).take k++(df x.lg)[k]::(df x.lg).drop (k+1):=by rw[←List.drop_eq_getElem_cons hk,List.take_append_drop]
 generalize(df x.lg)[k]=p at*;obtain⟨i,n⟩:=p;rw[hs];obtain⟨t,C,ht,hn,hC,hcase⟩:=D.outs ok hLL hK;obtain⟨t',C',ht',hC',hz,hrow⟩:=hr;rw[ht]at ht';cases ht';rw[hC]at hC';cases hC';rcases hcase with⟨⟨-,-,q,hq,hq0⟩,hO⟩|⟨e,rfl,g1,g2,hO⟩;·exact .inl ⟨q,hrow 0 _ hq,hq0,hO⟩
 ·refine .inr ⟨e,⟨hrow 0 _ rfl,hrow 1 _ rfl,hrow 2 _ rfl,hrow 3 _ rfl,hrow 4 _ rfl⟩,Ms D (hO.sub _ (List.mem_append_right _ (List.mem_singleton.2 rfl))),fun e' he'=>?_,hO⟩;rcases List.mem_append.1 he' with h|h;·exact⟨Mo hPU hLU e' h,g1 e' h⟩
  ·obtain⟨y,hy,rfl⟩:=List.mem_map.1 h;exact⟨Ms D (hK.sub y hy),(g2 y hy).1⟩
theorem tN.end(h:tN c Le P ls x suc){K:Sc}(hK:o7 (Me c Le P ls) suc (df x.lg) K):x.m.out=(((ib P++iQ Le)++K.map Prod.snd).length:Int)∧x.m.out≤max c.mo ((gF false P:Int)+(je 2 Le:Int)):=by obtain⟨⟨f0,pos,snap,h,B,D⟩,ho,-⟩:=h;have h1:=D.over ho;have h2:=D.outs_all ho hK;refine⟨?_,h1.2⟩;rw[h1.1,List.length_append,KW,List.length_map,h2];omega
end
end
end
end Go.Proofs.YtnncjbkepakgpaaGreat
