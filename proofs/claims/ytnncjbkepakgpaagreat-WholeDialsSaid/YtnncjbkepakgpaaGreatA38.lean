/- THE WORLD: steps, by picks. DIALS AT ONCE: each step keeps it. -/
import Derived.Test.YtnncjbkepakgpaaGreatA37
import Derived.Test.YtnncjbkepakgpaaGreatA36
namespace Go.Proofs.YtnncjbkepakgpaaGreat
open Go.RowKit Qv
set_option linter.unusedVariables false
set_option linter.unusedSimpArgs false
set_option maxRecDepth 100000
set_option maxHeartbeats 4000000
section
attribute[local go_sem high]bQ
attribute[local simp high]bQ
theorem qV{p:Prop}(h:PQ p:=by have HS:=Lib.hid (fun(W:World)(b:Below w2.heap.size w2 W)=>Iy S h0 h1 picks P Q k x tu hR.out who (QM) X W (dd HX2.out (Kp.below b) fun _ h=>h));exact pq (HS)):p:=h
theorem Dy{p:Prop}(h:p:=by
 refine aX 8 af af ?_;simp only[aU];go_wp2_with fail;refine(HS.out w2.drew (Below.refl w2.heap.size w2).drew).mono ?_;rintro e w3⟨X3,x3,rfl,hP3,HX3,hb⟩;have hX3s:=HX3.size;have hX31:=hX3s.1;have hX32:=hX3s.2;have hP3:=Lib.hid hP3;have HX3:=Lib.hid HX3;have b3:Below w2.heap.size w2 w3:=((Below.refl w2.heap.size w2).drew).trans hb;have HB3:=cD b3 HB2;have fB3:=HB3.out;simp only[Bx,Bo]at fB3;clear hb HS hX3s;go_wp2;refine am (Ja) ?_;refine bb [9,10,11] 1 rfl af (fun _ _ d _ _ h=>bo) (Ja) ?_;simp only[PL];apply ae;·exact Ax
 try simp only[PT]
 apply ae;·exact Ax
 try simp only[PT]
 apply ae;·exact Ax
 try simp only[PT]
 refine aC ?_;refine aX 12 af af ?_;simp only[aU];go_wp2_with fail;refine am (Ja) ?_;refine cw af ?_;go_wp2_with fail;go_roundg m;case measure=>omega
 case rel=>exact⟨k+1,ay,aa,x3,X3,hP3.out,Lib.hid (HB3.out.set (i:=0) (C:=X3) (fun _ _ _ e=>by cases e;exact hX31)),Lib.hid (dd HX3.out (Kp.setRow (T:=w.heap.size) (QN)) fun q h=>QO),ai (b2.trans (b3.mono b2.size)) (Nat.le_refl _) _⟩):p:=h
theorem Dz{p:Prop}(h:p:=by
 have hr0:¬((r:Int)<0):=aa;have hr1:(r:Int)<((ef x tu x.ts.length).length:Int):=aa;have hr2:0≤(r:Int):=aa;go_wp2;refine am (Ja) ?_;refine bb [6,7] 6 rfl af (fun _ _ d _ _ h=>bo) (Ja) ?_;simp only[PL];apply ae;·exact Ax
 try simp only[PT]
 apply ae;·exact Ax
 try simp only[PT]
 refine aC ?_;refine aX 0 af af ?_;simp only[aU];go_wp2_with fail;refine am (Ja) ?_;exact Dy):p:=h
theorem DA{p:Prop}(h:p:=by
 have hr0:¬((r:Int)<0):=aa;have hr1:(r:Int)<((ef x tu x.ts.length).length:Int):=aa;have hr2:0≤(r:Int):=aa;go_wp2;refine am (Ja) ?_;refine bb [6,7] 5 rfl af (fun _ _ d _ _ h=>bo) (Ja) ?_;simp only[PL];apply ae;·exact Ax
 try simp only[PT]
 apply ae;·exact Ax
 try simp only[PT]
 refine aC ?_;exact Dy):p:=h
def wU(x:Int)(m:Nat):Nat:=((Int.tmod x m+m)%(m:Int)).toNat
theorem lW(x:Int)(hx:-9223372036854775808≤x∧x≤9223372036854775807)(m:Nat)(h0:1≤m)(h1:m≤100)(w:World):Calls Tryz.prog 24 #[x,m] w fun e w'=>wU x m<m∧e= .returned (I (wU x m))∧w=w':=by have hm0:¬((m:Int)=0):=aa;have hm1:¬((m:Int)=-1):=aa;have hm2:(m:Int)≠-1:=aa;have q1:=Int.tmod_lt_of_pos x (show(0:Int)<m by omega);have q2:-(m:Int)<Int.tmod x m:=Int.lt_tmod_of_pos x aa;have e1:IntKind.i64.wrap (Int.tmod x m+m)=Int.tmod x m+m:=eD;have q3:=Int.tmod_lt_of_pos (Int.tmod x m+m) (show(0:Int)<m by omega);have q4:0≤Int.tmod (Int.tmod x m+m) m:=Int.tmod_nonneg _ aa;have e2:IntKind.i64.wrap (Int.tmod x m)=Int.tmod x m:=eD;have e3:IntKind.i64.wrap (Int.tmod (Int.tmod x m+m) m)=Int.tmod (Int.tmod x m+m) m:=eD;go_enter Tryz.func24,Tryz.ntmps24;go_wp2;go_ret;have q5:=Int.emod_lt_of_pos (Int.tmod x m+m) (show(0:Int)<m by omega);have q6:=Int.emod_nonneg (Int.tmod x m+m) (show(m:Int)≠0 by omega);exact⟨by unfold wU;omega,by unfold wU;rw[Int.toNat_of_nonneg q6];rfl,rfl⟩
theorem N6{W:World}{v:Value}{L:List Int}(h:Sl W v 1 (L.map fun x=>#[I x])){k:Nat}(hk:k<L.length):∃g o cap,v= .slice (some ⟨g,o,none⟩) L.length cap∧g<W.heap.size∧W.cell? ⟨g,o+k,none⟩=some (.int .i64 L[k]):=by
 obtain⟨a,cap,rfl,h1,h2,h3⟩:=h;rcases h3 with⟨_,h3⟩|⟨g,o,rfl,hg,h3⟩;·simp at h3;subst h3;simp at hk
 ·have:=h3 k #[I L[k]] nS;have hc:=this.cell (k:=0) (v:=I L[k]) ay;refine⟨g,o,cap,ay,hg,uH⟩
def Fp(W:World)(v:Value)(L:List Int):Prop:=(∃a c,v= .slice a L.length c)∧(0<L.length→Sl W v 1 (L.map fun x=>#[I x]))
theorem Fp.below{W W':World}{v:Value}{L:List Int}(h:Fp W v L)(k:Below W.heap.size W W'):Fp W' v L:=⟨h.1,fun h0=>(h.2 h0).below k⟩
theorem Fp.of{W:World}{v:Value}{L:List Int}(h:Sl W v 1 (L.map fun x=>#[I x])):Fp W v L:=by refine⟨?_,fun _=>h⟩;obtain⟨a,c,rfl,-⟩:=h;exact⟨a,c,ay⟩
theorem Q4{W:World}{B:Nat}{v:Value}{L:List Nat}(h:aV W B 3 1 v (L.map qE))(hL:L≠[]):∃g cap,v= .slice (some ⟨g,0,none⟩) L.length cap∧g<W.heap.size∧B≤g∧∀k(hk:k<L.length),W.cell? ⟨g,k,none⟩=some (.int .i64 (L[k]:Nat)):=by
 have hb:=h;obtain⟨⟨h1,h2⟩,h3⟩:=h;rcases h2 with⟨rfl,h2⟩|⟨g,cap,cur,rfl,h4,h5,h6,h7,h8,h9⟩;·have:L.map qE=[]:=List.eq_nil_of_length_eq_zero h2;simp at this;exact absurd this hL
 ·have hg:=(Array.getElem?_eq_some_iff.1 h5).1;refine⟨g,cap,ay,hg,h4,fun k hk=>?_⟩;obtain⟨a',cap',e,_,_,hh⟩:=hb.sl;simp only[Value.slice.injEq]at e;obtain⟨rfl,-,-⟩:=e;rcases hh with⟨hh,_⟩|⟨g',o',e2,_,hh⟩;·cases hh
  ·simp only[Option.some.injEq,Addr.mk.injEq]at e2;obtain⟨rfl,rfl,-⟩:=e2;have:=hh k (qE L[k]) nS;have hc:=this.cell (k:=0) (v:=I (L[k]:Nat)) (by simp[qE]);simpa using hc
theorem nH.size{R:Nat→Prop}{W:World}{X:Array Value}{x:Wo}(h:nH R W X x):X.size=24∧bB X=true:=by obtain⟨k1,k2,k3,k4,k5,k6,k7,k8,k9,k10,k11,k12,k13,k14,k15,k16,a1,m1,c1,a2,m2,c2,a3,c3,a4,c4,aT,cT,aG,cG,hk,hko,rfl,-⟩:=h.open;exact⟨rfl,by simp only[bW,bi,bF,hko,ky,jW,Bool.and_self]⟩
def iS(picks:List Int)(k:Nat):Int:=if h:k<picks.length then picks[k]else 0
structure pB(S:Nat)(picks:List Int)(P:Nat→Wo→Prop)(Q:Nat→Wo→(Nat→Option Oq)→Prop)(k:Nat)(x:Wo)(tu:Nat→Option Oq):Prop where
 q:Q k x tu
 m:Fb S x.m
 ts:x.ts.length≤100
 lg:x.lg.length≤50000
 tk:∀i t,x.ts[i]? =some t→BK S x tu i t∧t.calls.length≤1000000∧t.got.length≤10000∧t.rep.length≤10000∧∀o,tu i=some o→o.k=6→vZ x.m o.a o.b o.c∧∀l,o.v.bk=some l→l.length≤100000
 go:∀who t o,x.ts[who]? =some t→tu who=some o→ia o (bf x.m o.lk)=true→(ef x tu x.ts.length)[wU (iS picks k) (ef x tu x.ts.length).length]? =some who→∃T,eJ x.K ⟨t.calls,t.nth,t.got++[fW x.m o],t.rep⟩ T∧∀x',DM x who t o T x'→P (k+1) x'
theorem KU{x:Wo}{tu:Nat→Option Oq}{who:Nat}(h:who∈ef x tu x.ts.length):∃t o,x.ts[who]? =some t∧tu who=some o∧ia o (bf x.m o.lk)=true:=by
 unfold ef at h;rw[List.mem_filter,List.mem_range]at h;obtain⟨h1,h2⟩:=h;unfold Hz at h2;cases ho:tu who with
  |none=>rw[ho]at h2;cases h2
  |some o=>rw[ho]at h2;exact⟨_,o,List.getElem?_eq_getElem h1,rfl,h2⟩
theorem Iy(S:Nat)(h0:1≤S)(h1:S≤8)(picks:List Int)(P:Nat→Wo→Prop)(Q:Nat→Wo→(Nat→Option Oq)→Prop)(k:Nat)(x:Wo)(tu:Nat→Option Oq)(Hx:pB S picks P Q k x tu)(who:Nat)(hw:(ef x tu x.ts.length)[wU (iS picks k) (ef x tu x.ts.length).length]? =some who){R:Nat→Prop}(X:Array Value)(w:World)(h:nH R w X x):Calls Tryz.prog 23 #[.agg X,who] w fun e w'=>∃X' x',e= .returned (.tuple #[.agg X',Y])∧P (k+1) x'∧nH (Rn R w.heap.size) w' X' x'∧Below w.heap.size w w':=by
 obtain⟨t,o,ht,ho,hm⟩:=KU (List.mem_of_getElem? hw);obtain⟨hf,b1,b2,b3,hst⟩:=Hx.tk who t ht;rcases hf with⟨hn,-⟩|⟨o',hn,hl,HT,hF⟩;·rw[ho]at hn;cases hn
 rw[ho]at hn;cases hn;obtain⟨T,HT2,hP⟩:=Hx.go who t o ht ho hm hw;have hwl:=(List.getElem?_eq_some_iff.1 ht).1;have hts:=Hx.ts;refine(PW S h0 h1 x Hx.m who aa t ht hl o HT hF (hst o ho) hm T HT2 b1 b2 b3 hts Hx.lg X w h).mono ?_;rintro e w'⟨X',x',e1,e2,e3,e4⟩;exact⟨X',x',e1,hP x' e2,e3,e4⟩
def Mz(S:Nat)(picks:List Int)(P:Nat→Wo→Prop)(Q:Nat→Wo→(Nat→Option Oq)→Prop)(steps:Nat)(R:Nat→Prop)(w:World)(e:Ending)(w':World):Prop:=∃X x k tu,e= .returned (.agg X)∧nH (Rn R w.heap.size) w' X x∧P k x∧(k=steps∨(pB S picks P Q k x tu∧ef x tu x.ts.length=[]))∧k≤steps∧Below w.heap.size w w'
theorem PU(S:Nat)(h0:1≤S)(h1:S≤8)(steps:Nat)(hs:steps≤3000)(picks:List Int)(hpk:∀x∈picks,-9223372036854775808≤x∧x≤9223372036854775807)(P:Nat→Wo→Prop)(Q:Nat→Wo→(Nat→Option Oq)→Prop)(hP:∀k x,k<steps→P k x→∃tu,pB S picks P Q k x tu)(x0:Wo)(hP0:P 0 x0)(v:Value){R:Nat→Prop}(X0:Array Value)(w:World)(hv:Fp w v picks)(h:nH R w X0 x0):Calls Tryz.prog 9 #[.agg X0,v,steps] w (Mz S picks P Q steps R w):=by
 have HV:=Lib.hid hv;have HPK:=Lib.hid hpk;have HP:=Lib.hid hP;have hX0s:=h.size;have hX01:=hX0s.1;have hX02:=hX0s.2;have Hx:=Lib.hid (mM h);obtain⟨⟨ap,cp,rfl⟩,-⟩:=id hv;clear hv h hpk hP hX0s;have hP0:=Lib.hid hP0;go_enter Tryz.func9,Tryz.ntmps9;go_wp2;go_loopg[7]steps(fun g s7 wr=>∃k:Nat,s7= .int .i64 k∧k+g=steps∧∃x X,P k x∧Hid (Bx wr w.heap.size [(51,24,X),(51,24,#[Z,Z,Z,Z,Z,U,Z,Z,Z,Z,Z,Z,Z,Z,Z,Z,Z,Z,V,V,V,V,V,V])])∧Hid (nH (fun q=>Rn R w.heap.size q∧q≠w.heap.size∧q≠w.heap.size+1) wr X x)∧Below w.heap.size w wr);case atStart=>refine⟨0,rfl,aa,x0,X0,hP0.out,Lib.hid dY,Lib.hid (dd Hx.out (Kp.below (by first|exact bY|exact Ri|exact iv)) fun q h=>⟨.inl h.1,aa,aa⟩),by first|exact bY|exact Ri|exact iv⟩
 case round=>
  obtain⟨k,rfl,hg,x,X,hP,HBx,HX,HB⟩:=hrel;have hP:=Lib.hid hP;have hXs:=HX.out.size;have hX1:=hXs.1;have hX2:=hXs.2;have fB:=HBx.out;simp only[Bx,Bo]at fB;have sW:w.heap.size+2≤wr.heap.size:=aa;clear Hx hX01 hX02 hP0 hXs;cases gk with
   |zero=>
    have hk:¬((k:Int)<(steps:Int)):=aa;obtain⟨tuE,hEnd⟩:∃tu,Hid (k=steps∨(pB S picks P Q k x tu∧ef x tu x.ts.length=[])):=⟨fun _=>none,Lib.hid (.inl aa)⟩;clear fB;have fE:=HBx.out;simp only[Bx,Bo]at fE;have hXs:=HX.out.size;have hX1:=hXs.1;have hX2:=hXs.2;go_wp2;refine bodyPost_ret (v:=.agg X) (aN (t:=51) Tryz.results9 _ _ _ rfl ?_ ?_ ph BN) rfl ?_;·go_simp
    ·go_simp
    exact⟨X,x,k,tuE,rfl,(dd HX.out (Kp.setRow (T:=w.heap.size+1) (fun h=>h.2.2 rfl)) fun q h=>h.1),hP.out,hEnd.out,aa,ai HB aa _⟩
   |succ m=>
    have hk:(k:Int)<(steps:Int):=aa;obtain⟨tu,hR⟩:=HP.out k x aa hP.out;have hR:=Lib.hid hR;have HE:=Lib.hid (fun(W:World)(b:Below wr.heap.size wr W)=>GW S h0 h1 x hR.out.m tu (fun i t ht=>(hR.out.tk i t ht).1) (by have:=hR.out.ts;omega) X W (dd HX.out (Kp.below b) fun _ h=>h));go_wp2_with fail;refine(HE.out wr (Below.refl _ _)).mono ?_;rintro e w2⟨v2,rfl,hO,hb⟩;have hsz2:=hb.size;have HX2:=Lib.hid (dd HX.out (Kp.below hb) fun _ h=>h);have b2:Below w.heap.size w w2:=HB.trans (hb.mono HB.size);have HB2:=cD hb HBx;have fB2:=HB2.out;simp only[Bx,Bo]at fB2;clear hb HE fB HBx HX;by_cases hne:ef x tu x.ts.length=[];·
     have hsl:=hO.sl;obtain⟨a2,c2,rfl,-⟩:=hsl;have hl0:((ef x tu x.ts.length).map qE).length=0:=by rw[hne];rfl
     obtain⟨tuE,hEnd⟩:∃tu,Hid (k=steps∨(pB S picks P Q k x tu∧ef x tu x.ts.length=[])):=⟨tu,Lib.hid (.inr ⟨hR.out,hne⟩)⟩;rw[hl0];clear hne hO hl0 fB2;have fE:=HB2.out;simp only[Bx,Bo]at fE;have hXs:=HX2.out.size;have hX1:=hXs.1;have hX2:=hXs.2;go_wp2;refine bodyPost_ret (v:=.agg X) (aN (t:=51) Tryz.results9 _ _ _ rfl ?_ ?_ ph BN) rfl ?_;·go_simp
     ·go_simp
     exact⟨X,x,k,tuE,rfl,(dd HX2.out (Kp.setRow (T:=w.heap.size+1) (fun h=>h.2.2 rfl)) fun q h=>h.1),hP.out,hEnd.out,aa,ai b2 aa _⟩
    ·obtain⟨g2,c2,rfl,hg2,hgB,hcell⟩:=Q4 hO hne;have hlen1:1≤(ef x tu x.ts.length).length:=by have:=List.length_pos_iff.2 hne;omega
     have hlen2:(ef x tu x.ts.length).length≤100:=Nat.le_trans (yK x tu x.ts.length) hR.out.ts;have hlen3:(((ef x tu x.ts.length).length:Int)==0)=false:=by rw[beq_eq_false_iff_ne];omega
     have hlen4:¬(((ef x tu x.ts.length).length:Int)=0):=aa;clear hO;have HCell:=Lib.hid hcell;clear hcell;have hgN0:¬(g2=w.heap.size):=aa;have hgN1:g2≠w.heap.size:=aa;clear hne;by_cases hp:k<picks.length;·
      obtain⟨gp,op,cp',ep,hgp,hcp⟩:=N6 (HV.out.2 aa) hp;simp only[Value.slice.injEq]at ep;obtain⟨rfl,-,rfl⟩:=ep;have hcp2:w2.cell? ⟨gp,op+k,none⟩=some (.int .i64 picks[k]):=by rw[b2.cell (p:=⟨gp,op+k,none⟩) hgp];exact hcp
      have hx0:=HPK.out picks[k] (List.getElem_mem hp);have hx1:iS picks k=picks[k]:=by unfold iS;rw[dif_pos hp]
      have hpi:(k:Int)<(picks.length:Int):=aa;have hk0:¬((k:Int)<0):=aa;have hk1:0≤(k:Int):=aa;generalize picks[k]=x0 at*;clear hcp;have hx1:=Lib.hid hx1;go_wp2;refine bA (ax w.heap.size w2) [1,2,3,4] 9 af af (fun _ _ d _ _ h=>bo) (ax.refl _ _).drew ?_;simp only[PL];apply ae;·exact Ax
      try simp only[PT]
      apply ae;·exact Ax
      try simp only[PT]
      apply ae;·exact Ax
      try simp only[PT]
      apply ae;·exact Ax
      try simp only[PT]
      refine aC ?_;refine fT 0 5 af af af ?_ ?_;·simp only[aU];go_wp2_with fail;refine am (Ja) ?_;refine aX 5 af af ?_;simp only[aU];go_wp2_with fail;refine(lW x0 hx0 (ef x tu x.ts.length).length hlen1 aa _).mono ?_;rintro e w'⟨hr,rfl,rfl⟩;obtain⟨who,hwq⟩:∃y:Nat,y=(ef x tu x.ts.length)[wU x0 (ef x tu x.ts.length).length]:=⟨_,rfl⟩;have hcr:w2.cell? ⟨g2,wU x0 (ef x tu x.ts.length).length,none⟩=some (.int .i64 (who:Nat)):=BX;have hpk:iS picks k=x0:=hx1.out;have HS:=qV;clear hwq HCell hpk;generalize wU x0 (ef x tu x.ts.length).length=r at*;exact DA
      ·simp only[aU];go_wp2_with fail;refine(lW x0 hx0 (ef x tu x.ts.length).length hlen1 aa _).mono ?_;rintro e w'⟨hr,rfl,rfl⟩;obtain⟨who,hwq⟩:∃y:Nat,y=(ef x tu x.ts.length)[wU x0 (ef x tu x.ts.length).length]:=⟨_,rfl⟩;have hcr:w2.cell? ⟨g2,wU x0 (ef x tu x.ts.length).length,none⟩=some (.int .i64 (who:Nat)):=BX;have hpk:iS picks k=x0:=hx1.out;have HS:=qV;clear hwq HCell hpk;generalize wU x0 (ef x tu x.ts.length).length=r at*;exact Dz
     ·have hpi:¬((k:Int)<(picks.length:Int)):=aa;have hx0:-9223372036854775808≤(0:Int)∧(0:Int)≤9223372036854775807:=aa;go_wp2;refine bA (ax w.heap.size w2) [1,2,3,4] 9 af af (fun _ _ d _ _ h=>bo) (ax.refl _ _).drew ?_;simp only[PL];apply ae;·exact Ax
      try simp only[PT]
      apply ae;·exact Ax
      try simp only[PT]
      apply ae;·exact Ax
      try simp only[PT]
      apply ae;·exact Ax
      try simp only[PT]
      refine aC ?_;refine fT 0 5 af af af ?_ ?_;·simp only[aU];go_wp2_with fail;refine am (Ja) ?_;refine aX 5 af af ?_;simp only[aU];go_wp2_with fail;refine(lW 0 hx0 (ef x tu x.ts.length).length hlen1 aa _).mono ?_;rintro e w'⟨hr,rfl,rfl⟩;obtain⟨who,hwq⟩:∃y:Nat,y=(ef x tu x.ts.length)[wU 0 (ef x tu x.ts.length).length]:=⟨_,rfl⟩;have hcr:w2.cell? ⟨g2,wU 0 (ef x tu x.ts.length).length,none⟩=some (.int .i64 (who:Nat)):=BX;have hpk:iS picks k=0:=(by unfold iS;rw[dif_neg aa]);have HS:=qV;clear hwq HCell hpk;generalize wU 0 (ef x tu x.ts.length).length=r at*;exact DA
      ·simp only[aU];go_wp2_with fail;refine(lW 0 hx0 (ef x tu x.ts.length).length hlen1 aa _).mono ?_;rintro e w'⟨hr,rfl,rfl⟩;obtain⟨who,hwq⟩:∃y:Nat,y=(ef x tu x.ts.length)[wU 0 (ef x tu x.ts.length).length]:=⟨_,rfl⟩;have hcr:w2.cell? ⟨g2,wU 0 (ef x tu x.ts.length).length,none⟩=some (.int .i64 (who:Nat)):=BX;have hpk:iS picks k=0:=(by unfold iS;rw[dif_neg aa]);have HS:=qV;clear hwq HCell hpk;generalize wU 0 (ef x tu x.ts.length).length=r at*;exact Dz
end
section
theorem zF{p:Prop}(h:p:=by exact⟨_,_,none,_,suc,D.told ht hnth hrt (s':=B) (B':=B) aa (ok.a6 _ _ D.gd) hgot D.gd hh hno (fun l0 a b=>⟨l0,c2.trans a,b,aa⟩) nu c5 hmem' D.gd D.cnt D.most D.tkn D.nos D.npw D.key (fun e=>by rw[m1];omega) (.inl rfl) (fun e e1 e2=>by rw[hr]at e2;cases e2)⟩):p:=h
def Dl.tu(d:Dl)(x:Wo)(pos:Nat→Nat)(snap:Nat→Mm)(i:Nat):Option Oq:=match x.ts[i]? with
 |none=>none
 |some t=>if t.calls.length≤t.nth then none else if d.rt (aD t)=true then(d.ops (snap i) (aD t))[pos i]? else some Bh
structure Qk(d:Dl)(K:Array Value):Prop where
 good:∀(t:Tk)m k i,t.calls=d.cs i→d.gd m→t.nth<t.calls.length→d.rt (aD t)=true→k≤(d.ops m (aD t)).length→t.got=(ej m (d.ops m (aD t))).take k→eJ K t (d.T m (aD t) k)
 bad0:∀(t:Tk)i,t.calls=d.cs i→t.nth<t.calls.length→d.rt (aD t)=false→t.got=[]→eJ K t (.op Bh)
 bad1:∀(t:Tk)i,t.calls=d.cs i→t.nth<t.calls.length→d.rt (aD t)=false→t.got=[zV]→eJ K t (.done we)
theorem yj{m m':Mm}{j:Int}{b:Bool}{who:Nat}(h:kZ m (cW 1 j b) who m'):m'=gh m j (((who+1:Nat):Int),(bf m j).2):=by unfold kZ at h;simpa[cW]using h
theorem D7{m m':Mm}{b:Bool}{who:Nat}(h:kZ m (cW 2 0 b) who m'):∃l':List Nat,l'.Pairwise (·≤·)∧l'.length≤(bf m 0).2.length+1∧m'=gh m 0 ((bf m 0).1,l'):=by unfold kZ at h;simpa[cW]using h
theorem Gp{m m':Mm}{j:Int}{b:Bool}{who:Nat}(h:kZ m (cW 3 j b) who m'):m'=gh m j (if(bf m j).1=(who+1:Nat)then 0 else(bf m j).1,(bf m j).2):=by unfold kZ at h;simp only[cW]at h;rw[if_neg (show¬(3:Int)=1 by decide),if_neg (show¬(3:Int)=2 by decide),if_pos trivial]at h;exact h
theorem Gn{m m':Mm}{b:Bool}{who:Nat}(h:kZ m (cW 4 0 b) who m'):∃l':List Nat,l'.Pairwise (·≤·)∧l'.length≤(bf m 0).2.length∧m'=gh m 0 ((bf m 0).1,l'):=by unfold kZ at h;simpa[cW]using h
theorem yi{m m':Mm}{o:Oq}{who:Nat}(hk:o.k=5∨o.k=6∨o.k=7∨o.k=8)(h:kZ m o who m'):m'=ko m o:=by unfold kZ at h;unfold ko;rcases hk with e|e|e|e<;>simpa[e]using h
theorem pe(m:Mm)(k j:Int)(b:Bool)(h:k≠5∧k≠7):fW m (cW k j b)=zV:=by unfold fW cW;rw[if_neg h.1,if_neg h.2];rfl
theorem jk{m:Mm}{j:Nat}{a:Int×List Nat}(h:m.lk[j]? =some a):bf m j=a:=by unfold bf;rw[show((j:Int)).toNat=j from rfl,List.getD_eq_getElem?_getD,h];rfl
theorem jw{m:Mm}{j:Nat}{a:Int×List Nat}(i:Nat):(gh m j a).lk[i]? =if j=i then(if j<m.lk.length then some a else none)else m.lk[i]? :=by unfold gh;show(m.lk.set ((j:Int)).toNat a)[i]? =_;rw[show((j:Int)).toNat=j from rfl,List.getElem?_set]
theorem nu{m:Mm}{j:Int}{a:Int×List Nat}:(gh m j a).lk.length=m.lk.length:=by unfold gh;simp
theorem wy(m:Mm)(o:Oq):(ko m o).lk=m.lk:=by
 unfold ko iY dD;repeat' split
 all_goals rfl
theorem tx{m:Mm}{bk:Ed→Option (List (Array Value))}{r:Dr}:∀o∈cO m bk r,o.k=5∨o.k=6∨o.k=7:=by
 intro o ho;cases r with
  |ok e=>
   simp only[cO,List.mem_cons,List.not_mem_nil,or_false]at ho;rcases ho with rfl|rfl|rfl;·exact .inl rfl
   ·exact .inr (.inr rfl)
   ·exact .inr (.inl rfl)
  |full=>cases ho
  |non=>cases ho
section
variable{d:Dl}{o0:Int}{f0:Nat}{x:Wo}{pos:Nat→Nat}{snap:Nat→Mm}{h:Option Nat}{B:Mm}{suc:Sc}
def xC(d:Dl)(o0:Int)(f0:Nat)(x:Wo)(who:Nat)(t:Tk)(o:Oq):Prop:=∃T,(∀K,Qk d K→eJ K ⟨t.calls,t.nth,t.got++[fW x.m o],t.rep⟩ T)∧∀x',DM x who t o T x'→∃pos' snap' h' B' suc',DI d o0 f0 x' pos' snap' h' B' suc'
theorem Dl.len(d:Dl)(m:Mm)(c:Array Value):(d.ops m c).length=2*d.S+4+eq d.S m (d.bk m) (d.r m c):=uK
theorem Dl.T_op{d:Dl}{m:Mm}{c:Array Value}{k:Nat}(h:k<(d.ops m c).length):∃o,d.T m c k= .op o:=by unfold Dl.T;rw[List.getElem?_eq_getElem h];exact⟨_,rfl⟩
theorem Dl.T_done{d:Dl}{m:Mm}{c:Array Value}{k:Nat}(h:(d.ops m c).length≤k):d.T m c k= .done (OR (d.r m c)):=by unfold Dl.T;rw[List.getElem?_eq_none h]
theorem qX(D:DI d o0 f0 x pos snap h B suc){who:Nat}{t:Tk}{o:Oq}(ht:x.ts[who]? =some t)(hnth:t.nth<t.calls.length)(hrt:d.rt (aD t)=true){s':Mm}(hgs:d.gd s')(hN:pos who+1<(d.ops s' (aD t)).length)(hgot:t.got++[fW x.m o]=(ej s' (d.ops s' (aD t))).take (pos who+1))(Hx:∀m',kZ x.m o who m'→∃pos' snap' h' B' suc',DI d o0 f0 ⟨x.K,m',x.ts.set who ⟨t.calls,t.nth,t.got++[fW x.m o],t.rep⟩,x.lg++[(who,t.nth,false)]⟩ pos' snap' h' B' suc'):xC d o0 f0 x who t o:=by obtain⟨o',e⟩:=Dl.T_op hN;refine⟨.op o',fun K hK=>e▸hK.good ⟨t.calls,t.nth,t.got++[fW x.m o],t.rep⟩ s' _ who (D.tkI who t ht).1 hgs hnth hrt (Nat.le_of_lt hN) hgot,?_⟩;rintro x'⟨m',k1,rfl⟩;exact Hx m' k1
theorem DI.wrong(D:DI d o0 f0 x pos snap h B suc){who:Nat}{t:Tk}(ht:x.ts[who]? =some t)(hnth:t.nth<t.calls.length)(hrt:d.rt (aD t)=false):xC d o0 f0 x who t Bh:=by
 obtain⟨q1,q2,q3,q4,q5⟩:=D.tkI who t ht;have hp:pos who=0:=by
  by_cases hp:0<pos who;·have:=(q5 hp).2.1;rw[hrt]at this;cases this
  ·omega
 have hg:=q4 hp;refine⟨.done we,fun K hK=>hK.bad1 ⟨t.calls,t.nth,t.got++[fW x.m Bh],t.rep⟩ who q1 hnth hrt ?_,?_⟩;·show t.got++[fW x.m Bh]=[zV];rw[hg];rfl
 rintro x'⟨m',k1,CR,k2,rfl⟩;have hm:m'=x.m:=by have:=yi (.inr (.inr (.inr rfl))) k1;exact this
 subst hm;refine⟨_,snap,h,B,suc,D.done ht hnth (fun e=>?_) (by rw[hg];simp) (fun l0 a b=>⟨l0,a,b,aa⟩) rfl (fun _ _ _=>rfl) rfl (.inl k2) fun e he=>?_⟩;·have:=(D.hold who t ht).1 e;omega
 ·obtain⟨u,k3,k4⟩:=D.scI who t.nth e he;rw[ht]at k3;cases k3;rcases k4 with⟨k4,-⟩|⟨-,-,k4,-⟩<;>omega
theorem DI.st0(D:DI d o0 f0 x pos snap h B suc)(ok:nK d){who:Nat}{t:Tk}(ht:x.ts[who]? =some t)(hnth:t.nth<t.calls.length)(hrt:d.rt (aD t)=true)(hp:pos who=0):xC d o0 f0 x who t (cW 2 0 false):=by
 obtain⟨q1,q2,q3,q4,q5⟩:=D.tkI who t ht;have hg:=q4 hp;have hl:=d.len B (aD t);have hgot:t.got++[fW x.m (cW 2 0 false)]=(ej B (d.ops B (aD t))).take (pos who+1):=by rw[hg,hp,jK B (d.ops B (aD t)) (k:=0) kn,pe _ _ _ _ az,pe _ _ _ _ az];rfl
 refine qX D ht hnth hrt D.gd aa hgot fun m' hd=>?_;obtain⟨l',r1,r2,rfl⟩:=D7 hd;obtain⟨l0,k1,k2,k3⟩:=D.lk0;have hl0:0<x.m.lk.length:=(List.getElem?_eq_some_iff.1 k1).1;have hlk0:=jk (j:=0) k1;have hh:h≠some who:=fun e=>by have:=(D.hold who t ht).1 e;omega
 refine⟨_,_,h,B,suc,D.told ht hnth hrt (s':=B) (B':=B) aa (ok.a6 _ _ D.gd) hgot D.gd ?_ (fun _ _=>Iff.rfl) ?_ nu ?_ ?_ D.gd D.cnt D.most D.tkn D.nos D.npw D.key (fun e=>aa) (.inl rfl) ?_⟩;·exact⟨fun e=>absurd e hh,fun e=>aa⟩
 ·intro l1 a b;rw[k1]at a;cases a;refine⟨l',?_,r1,?_⟩;·have:=jw (m:=x.m) (j:=0) (a:=((bf x.m 0).1,l')) 0;rw[if_pos rfl,if_pos hl0]at this;rw[show((0:Nat):Int)=0 from rfl]at this hlk0;rw[this,hlk0]
  ·rw[show((0:Nat):Int)=0 from rfl]at hlk0;rw[hlk0]at r2;exact r2
 ·intro j j1 j2;have:=jw (m:=x.m) (j:=0) (a:=((bf x.m 0).1,l')) j;rw[if_neg aa]at this;refine this.trans ((D.lk j j1 j2).trans ?_);cases h with
   |none=>rfl
   |some i=>have hi:i≠who:=fun e=>hh (by rw[e]);simp only[M0,if_neg hi]
 ·have hm:=D.mem;cases h with
   |none=>exact hm
   |some i=>have hi:i≠who:=fun e=>hh (by rw[e]);simp only[Al,if_neg hi];exact⟨rfl,trivial⟩
 ·intro e e1 e2;omega
theorem DI.st1(D:DI d o0 f0 x pos snap h B suc)(ok:nK d){who:Nat}{t:Tk}(ht:x.ts[who]? =some t)(hnth:t.nth<t.calls.length)(hrt:d.rt (aD t)=true)(hp:pos who=1)(hon:ia (cW 1 1 false) (bf x.m 1)=true):xC d o0 f0 x who t (cW 1 1 false):=by
 obtain⟨q1,q2,q3,q4,q5⟩:=D.tkI who t ht;obtain⟨-,-,q6,q7,q8⟩:=q5 aa;have hl:=d.len B (aD t);have hl1:=D.lk 1 (Nat.le_refl 1) aa;have hlA:=jk (j:=1) hl1;rw[show((1:Nat):Int)=1 from rfl]at hlA;have hn:h=none:=by
  cases h with
   |none=>rfl
   |some i=>
    exfalso;have hi:=D.hlt i rfl;have hi':i<x.ts.length:=by have:=D.n;omega
    have hu:=List.getElem?_eq_getElem hi';have h2:=(D.hold i _ hu).1 rfl;have e:Jb d x pos snap (some i) 1=((i+1:Nat):Int):=by simp only[Jb,LK hu];exact if_pos ⟨aa,aa⟩
    rw[hlA,e]at hon;have h3:((i+1:Nat):Int)=0:=by simpa[ia,cW]using hon
    omega
 subst hn;have hB:cr x.m=B:=D.mem;have hgot:t.got++[fW x.m (cW 1 1 false)]=(ej B (d.ops B (aD t))).take (pos who+1):=by rw[q7,hp,jK B (d.ops B (aD t)) (k:=1) (iA (k:=1) (Nat.le_refl 1) aa),jK B (d.ops B (aD t)) (k:=0) kn,jK (snap who) (d.ops (snap who) (aD t)) (k:=0) kn];simp only[pe _ _ _ _ (show(1:Int)≠5∧(1:Int)≠7 by decide),pe _ _ _ _ (show(2:Int)≠5∧(2:Int)≠7 by decide),List.take_zero]
 refine qX D ht hnth hrt D.gd aa hgot fun m' hd=>?_;have hm':=yj hd;subst hm';have hsh:(bf x.m 1).2=[]:=by rw[hlA]
 refine⟨_,_,some who,B,suc,D.told ht hnth hrt (s':=B) (B':=B) aa (ok.a6 _ _ D.gd) hgot D.gd ?_ (fun i hi=>?_) ?_ nu ?_ ?_ D.gd D.cnt D.most D.tkn D.nos D.npw D.key (fun e=>?_) (.inl rfl) ?_⟩;·exact⟨fun _=>aa,fun _=>rfl⟩
 ·constructor;·intro e;cases e;exact absurd rfl hi
  ·intro e;cases e
 ·intro l1 a b;have:=jw (m:=x.m) (j:=1) (a:=(((who+1:Nat):Int),(bf x.m 1).2)) 0;rw[if_neg aa]at this;exact⟨l1,this.trans a,b,aa⟩
 ·intro j j1 j2;have:=jw (m:=x.m) (j:=1) (a:=(((who+1:Nat):Int),(bf x.m 1).2)) j;refine this.trans ?_;simp only[M0,if_true];by_cases hj:1=j;·subst hj;rw[if_pos rfl,if_pos (by rw[D.lkn];omega),hsh,if_pos ⟨aa,aa⟩]
  ·rw[if_neg hj,D.lk j j1 j2,if_neg aa];rfl
 ·simp only[Al,if_true];refine⟨trivial,?_⟩;rw[hp,show d.ops B (aD t)=ee d.S B (d.bk B) (d.r B (aD t))from rfl,AS aa];exact hB
 ·have:=d.len (snap who) (aD t);omega
 ·intro e e1 e2;omega
theorem G3{p q:Prop}[Decidable p][Decidable q]{α:Type}{a b:α}(h:p↔q):(if p then a else b)=if q then a else b:=by
 by_cases hp:p;·rw[if_pos hp,if_pos (h.1 hp)]
 ·rw[if_neg hp,if_neg fun e=>hp (h.2 e)]
theorem DI.at2(D:DI d o0 f0 x pos snap h B suc){who:Nat}{t:Tk}(ht:x.ts[who]? =some t)(hp2:2≤pos who)(hpN:pos who+2≤(d.ops (snap who) (aD t)).length){o:Oq}(ho:(d.ops (snap who) (aD t))[pos who]? =some o):h=some who∧snap who=B∧cr x.m=cx B ((d.ops B (aD t)).take (pos who))∧t.got++[fW x.m o]=(ej B (d.ops B (aD t))).take (pos who+1)∧(∀m',cr m'=ko (cr x.m) o→cr m'=cx B ((d.ops B (aD t)).take (pos who+1)))∧∀j,1≤j→j≤d.S+1→x.m.lk[j]? =some (if j+1≤pos who∧pos who+j+1≤(d.ops B (aD t)).length then((who+1:Nat):Int)else 0,[]):=by
 obtain⟨q1,q2,q3,q4,q5⟩:=D.tkI who t ht;obtain⟨-,-,q6,q7,q8⟩:=q5 aa;have hh:=(D.hold who t ht).2 ⟨hp2,hpN⟩;subst hh;obtain⟨m1,m2⟩:=D.mem;rw[m1]at ho q7;have m3:=m2 t ht;refine⟨rfl,m1,m3,?_,fun m' e=>?_,fun j j1 j2=>?_⟩;·rw[q7,jK _ _ ho,←m3,AP]
 ·rw[D9 _ _ ho,←m3];exact e
 ·rw[D.lk j j1 j2];simp only[Jb,LK ht,m1]
theorem DI.st2(D:DI d o0 f0 x pos snap h B suc)(ok:nK d){who:Nat}{t:Tk}(ht:x.ts[who]? =some t)(hnth:t.nth<t.calls.length)(hrt:d.rt (aD t)=true)(hp2:2≤pos who)(hpN:pos who<d.S+2+eq d.S (snap who) (d.bk (snap who)) (d.r (snap who) (aD t))){o:Oq}(ho:(d.ops (snap who) (aD t))[pos who]? =some o):xC d o0 f0 x who t o:=by
 have hl:=d.len (snap who) (aD t);obtain⟨rfl,m1,m3,hgot,hmm,hlk⟩:=D.at2 ht hp2 aa ho;rw[m1]at hpN ho hl;refine qX D ht hnth hrt D.gd aa hgot fun m' hd=>?_;have key:cr m'=ko (cr x.m) o∧m'.lk[0]? =x.m.lk[0]? ∧m'.lk.length=x.m.lk.length∧∀j,1≤j→j≤d.S+1→m'.lk[j]? =some (if j+1≤pos who+1∧pos who+1+j+1≤(d.ops B (aD t)).length then((who+1:Nat):Int)else 0,[]):=by
  by_cases hk:pos who≤d.S+1;·
   have e:o=cW 1 (pos who) false:=by have:=iA (S:=d.S) (m:=B) (bk:=d.bk B) (r:=d.r B (aD t)) (k:=pos who) aa hk;exact Option.some.inj (ho.symm.trans this)
   subst e;have hm':=yj hd;subst hm';have hA:=jk (hlk (pos who) aa hk);refine⟨?_,?_,nu,fun j j1 j2=>?_⟩;·rw[Ce];rfl
   ·have:=jw (m:=x.m) (j:=pos who) (a:=(((who+1:Nat):Int),(bf x.m (pos who)).2)) 0;rw[if_neg aa]at this;exact this
   ·have:=jw (m:=x.m) (j:=pos who) (a:=(((who+1:Nat):Int),(bf x.m (pos who)).2)) j;refine this.trans ?_;by_cases hj:pos who=j;·subst hj;rw[if_pos rfl,if_pos (by rw[D.lkn];omega),if_pos ⟨aa,aa⟩,hA]
    ·rw[if_neg hj,hlk j j1 j2];exact congrArg (fun z=>some (z,([]:List Nat))) (G3 aa)
  ·obtain⟨o',e1,e2⟩:=rB (S:=d.S) (m:=B) (bk:=d.bk B) (r:=d.r B (aD t)) (k:=pos who) aa hpN;have e:o=o':=Option.some.inj (ho.symm.trans e1);subst e;have hm':=yi (by
    rcases List.mem_append.1 e2 with e2|e2;·exact .inl (iM o e2)
    ·rcases tx o e2 with e3|e3|e3;·exact .inl e3
     ·exact .inr (.inl e3)
     ·exact .inr (.inr (.inl e3))) hd;subst hm';refine⟨J8 _ _,by rw[wy],by rw[wy],fun j j1 j2=>?_⟩;rw[wy,hlk j j1 j2];exact congrArg (fun z=>some (z,([]:List Nat))) (G3 aa)
 obtain⟨c1,c2,c3,c4⟩:=key;refine⟨_,_,some who,B,suc,D.told ht hnth hrt (s':=B) (B':=B) aa (ok.a6 _ _ D.gd) hgot D.gd ?_ (fun i hi=>Iff.rfl) (fun l0 a b=>⟨l0,c2.trans a,b,aa⟩) c3 ?_ ?_ D.gd D.cnt D.most D.tkn D.nos D.npw D.key (fun e=>?_) (.inl rfl) ?_⟩;·exact⟨fun _=>aa,fun _=>rfl⟩
 ·intro j j1 j2;simp only[M0,if_true];exact c4 j j1 j2
 ·simp only[Al,if_true];exact⟨trivial,hmm m' c1⟩
 ·rw[m1];omega
 ·intro e e1 e2;omega
theorem DI.st3(D:DI d o0 f0 x pos snap h B suc)(ok:nK d){who:Nat}{t:Tk}(ht:x.ts[who]? =some t)(hnth:t.nth<t.calls.length)(hrt:d.rt (aD t)=true)(hp2:d.S+2+eq d.S (snap who) (d.bk (snap who)) (d.r (snap who) (aD t))≤pos who)(hpN:pos who+2≤(d.ops (snap who) (aD t)).length){o:Oq}(ho:(d.ops (snap who) (aD t))[pos who]? =some o):xC d o0 f0 x who t o:=by
 have hl:=d.len (snap who) (aD t);obtain⟨rfl,m1,m3,hgot,hmm,hlk⟩:=D.at2 ht aa hpN ho;rw[m1]at hp2 hpN ho hl;refine qX D ht hnth hrt D.gd aa hgot fun m' hd=>?_;obtain⟨mk,e1⟩:=rC (S:=d.S) (m:=B) (bk:=d.bk B) (r:=d.r B (aD t)) (k:=pos who) hp2 aa;have e:o=_:=Option.some.inj (ho.symm.trans e1);generalize hq:2*d.S+3+eq d.S B (d.bk B) (d.r B (aD t))-pos who=q at*;subst e;have hm':=Gp hd;have hA:=jk (hlk q aa aa);rw[if_pos ⟨aa,aa⟩]at hA;rw[hA,if_pos rfl]at hm';subst hm';have c1:cr (gh x.m (q:Int) (0,[]))=ko (cr x.m) (cW 3 q mk):=by rw[Ce];rfl
 have c2:(gh x.m (q:Int) (0,[])).lk[0]? =x.m.lk[0]? :=by have:=jw (m:=x.m) (j:=q) (a:=(0,[])) 0;rw[if_neg aa]at this;exact this
 have c4:∀j,1≤j→j≤d.S+1→(gh x.m (q:Int) (0,[])).lk[j]? =some (if j+1≤pos who+1∧pos who+1+j+1≤(d.ops B (aD t)).length then((who+1:Nat):Int)else 0,[]):=by
  intro j j1 j2;have:=jw (m:=x.m) (j:=q) (a:=((0:Int),([]:List Nat))) j;refine this.trans ?_;by_cases hj:q=j;·subst hj;rw[if_pos rfl,if_pos (by rw[D.lkn];omega),if_neg aa]
  ·rw[if_neg hj,hlk j j1 j2];exact congrArg (fun z=>some (z,([]:List Nat))) (G3 aa)
 have hmem:=hmm _ c1;by_cases hlast:pos who+2<(d.ops B (aD t)).length;·
  refine⟨_,_,some who,B,suc,D.told ht hnth hrt (s':=B) (B':=B) aa (ok.a6 _ _ D.gd) hgot D.gd ?_ (fun i hi=>Iff.rfl) (fun l0 a b=>⟨l0,c2.trans a,b,aa⟩) nu ?_ ?_ D.gd D.cnt D.most D.tkn D.nos D.npw D.key (fun e=>?_) (.inl rfl) ?_⟩;·exact⟨fun _=>aa,fun _=>rfl⟩
  ·intro j j1 j2;simp only[M0,if_true];exact c4 j j1 j2
  ·simp only[Al,if_true];exact⟨trivial,hmem⟩
  ·rw[m1];omega
  ·intro e e1 e2;omega
 ·have c5:∀j,1≤j→j≤d.S+1→(gh x.m (q:Int) (0,[])).lk[j]? =some ((0:Int),([]:List Nat)):=fun j j1 j2=>by rw[c4 j j1 j2,if_neg aa]
  have hmem':cr (gh x.m (q:Int) (0,[]))=jH B (d.bk B) (d.r B (aD t)):=by rw[hmem];exact D8 aa
  have hnk:∀e,((who,t.nth),e)∉suc:=by intro e he;obtain⟨u,k3,k4⟩:=D.scI who t.nth e he;rw[ht]at k3;cases k3;rw[m1]at k4;rcases k4 with⟨k4,-⟩|⟨-,k4,-,-⟩<;>omega
  have hno:∀i:Nat,i≠who→((none:Option Nat)=some i↔some who=some i):=fun i hi=>by
   constructor;·intro e;cases e
   ·intro e;cases e;exact absurd rfl hi
  have hh:(none:Option Nat)=some who↔2≤pos who+1∧pos who+3≤(d.ops B (aD t)).length:=⟨fun e=>absurd e ay,fun e=>aa⟩;cases hr:d.r B (aD t)with
   |ok e=>
    rw[hr]at hmem';refine⟨_,_,none,_,suc++[((who,t.nth),e)],D.told ht hnth hrt (s':=B) (B':=jH B (d.bk B) (.ok e)) aa (ok.a6 _ _ D.gd) hgot D.gd hh hno (fun l0 a b=>⟨l0,c2.trans a,b,aa⟩) nu c5 hmem' (ok.a5 _ _ _ D.gd hr) ?_ ?_ ?_ ?_ ?_ ?_ (fun e=>by rw[m1];omega) (.inr ⟨e,rfl,aa,hr⟩) ?_⟩;·show B.out+1=_;rw[D.cnt,List.length_append];simp;omega
    ·show B.out+1≤_;have:=ok.a4 _ _ _ D.gd hr;omega
    ·rintro e'(he|⟨q',he⟩);·exact ok.a3 _ _ _ _ D.gd hr (D.tkn e' (.inl he))
     ·rcases List.mem_append.1 he with he|he;·exact ok.a3 _ _ _ _ D.gd hr (D.tkn e' (.inr ⟨q',he⟩))
      ·simp only[List.mem_singleton,Prod.mk.injEq]at he;obtain⟨-,rfl⟩:=he;exact ok.a2 _ _ _ D.gd hr
    ·intro y hy e' he';rcases List.mem_append.1 hy with hy|hy;·exact D.nos y hy e' he'
     ·simp only[List.mem_singleton]at hy;subst hy;exact ok.a1 _ _ _ _ D.gd hr (D.tkn e' (.inl he'))
    ·rw[List.pairwise_append];refine⟨D.npw,ay,fun a ha b hb=>?_⟩;simp only[List.mem_singleton]at hb;subst hb;exact ok.a1 _ _ _ _ D.gd hr (D.tkn a.2 (.inr ⟨a.1,ha⟩))
    ·rw[List.map_append,List.nodup_append];refine⟨D.key,ay,fun a ha b hb e'=>?_⟩;simp only[List.map_cons,List.map_nil,List.mem_singleton]at hb;subst hb e';obtain⟨y,hy,e2⟩:=List.mem_map.1 ha;obtain⟨y1,y2⟩:=y;cases e2;exact hnk _ hy
    ·intro e' e1' e2';rw[hr]at e2';cases e2';exact List.mem_append_right _ ay
   |full=>rw[hr]at hmem';exact zF
   |non=>rw[hr]at hmem';exact zF
theorem DI.st4(D:DI d o0 f0 x pos snap h B suc)(ok:nK d){who:Nat}{t:Tk}(ht:x.ts[who]? =some t)(hp:0<pos who)(hpN:pos who+1=(d.ops (snap who) (aD t)).length):xC d o0 f0 x who t (cW 4 0 false):=by
 obtain⟨q1,q2,q3,q4,q5⟩:=D.tkI who t ht;obtain⟨hnth,hrt,q6,q7,q8⟩:=q5 hp;have hl:=d.len (snap who) (aD t);have h64:=ok.a6 _ (aD t) q8;have ho:(d.ops (snap who) (aD t))[pos who]? =some (cW 4 0 false):=by have:=na (S:=d.S) (m:=snap who) (bk:=d.bk (snap who)) (r:=d.r (snap who) (aD t));rw[show pos who=2*d.S+3+eq d.S (snap who) (d.bk (snap who)) (d.r (snap who) (aD t))by omega];exact this
 have hgl:t.got.length=pos who:=by rw[q7,List.length_take,lY];omega
 refine⟨.done (OR (d.r (snap who) (aD t))),fun K hK=>?_,?_⟩;·have:=hK.good ⟨t.calls,t.nth,t.got++[fW x.m (cW 4 0 false)],t.rep⟩ (snap who) (pos who+1) who q1 q8 hnth hrt (by show _≤(d.ops (snap who) (aD t)).length;omega) (by show t.got++[fW x.m (cW 4 0 false)]=(ej (snap who) (d.ops (snap who) (aD t))).take (pos who+1);rw[jK _ _ ho,←q7,pe _ _ _ _ az,pe _ _ _ _ az]);rw[show d.T (snap who) (aD ⟨t.calls,t.nth,t.got++[fW x.m (cW 4 0 false)],t.rep⟩) (pos who+1)= .done (OR (d.r (snap who) (aD t)))from Dl.T_done (c:=aD t) aa]at this;exact this
 rintro x'⟨m',k1,CR,k2,rfl⟩;obtain⟨l',r1,r2,rfl⟩:=Gn k1;obtain⟨l0,k3,k4,k5⟩:=D.lk0;have hl0:0<x.m.lk.length:=(List.getElem?_eq_some_iff.1 k3).1;have hlk0:=jk (j:=0) k3;rw[show((0:Nat):Int)=0 from rfl]at hlk0;refine⟨_,snap,h,B,suc,D.done ht hnth (fun e=>?_) aa ?_ nu ?_ rfl ?_ ?_⟩;·have:=(D.hold who t ht).1 e;omega
 ·intro l1 a b;rw[k3]at a;cases a;refine⟨l',?_,r1,by rw[hlk0]at r2;exact Nat.le_succ_of_le r2⟩;have:=jw (m:=x.m) (j:=0) (a:=((bf x.m 0).1,l')) 0;rw[if_pos rfl,if_pos hl0]at this;rw[show((0:Nat):Int)=0 from rfl]at this;rw[this,hlk0]
 ·intro j j1 j2;have:=jw (m:=x.m) (j:=0) (a:=((bf x.m 0).1,l')) j;rw[if_neg aa]at this;exact this
 ·cases hr:d.r (snap who) (aD t)with
   |ok e=>rw[hr]at k2;exact .inr ⟨e,k2,D.post who t e ht hp hpN hr⟩
   |full=>rw[hr]at k2;exact .inl k2
   |non=>rw[hr]at k2;exact .inl k2
 ·intro e he;obtain⟨u,k6,k7⟩:=D.scI who t.nth e he;rw[ht]at k6;cases k6;rcases k7 with⟨k7,-⟩|⟨-,-,-,k7⟩;·omega
  ·rw[k7]at k2;exact k2
theorem DI.step(D:DI d o0 f0 x pos snap h B suc)(ok:nK d){who:Nat}{t:Tk}{o:Oq}(ht:x.ts[who]? =some t)(ho:d.tu x pos snap who=some o)(hon:ia o (bf x.m o.lk)=true):xC d o0 f0 x who t o:=by
 unfold Dl.tu at ho;rw[ht]at ho;simp only at ho;obtain⟨q1,q2,q3,q4,q5⟩:=D.tkI who t ht;by_cases hn:t.calls.length≤t.nth;·rw[if_pos hn]at ho;cases ho
 rw[if_neg hn]at ho;have hnth:t.nth<t.calls.length:=aa;cases hrt:d.rt (aD t)with
  |false=>rw[hrt]at ho;simp only[Bool.false_eq_true,if_false,Option.some.injEq]at ho;subst ho;exact D.wrong ht hnth hrt
  |true=>
   rw[hrt,if_pos rfl]at ho;have hl:=d.len (snap who) (aD t);by_cases h0:pos who=0;·rw[h0]at ho;have e:o=_:=Option.some.inj (ho.symm.trans kn);subst e;exact D.st0 ok ht hnth hrt h0
   have hN:=(q5 aa).2.2.1;by_cases h1:pos who=1;·rw[h1]at ho;have e:o=_:=Option.some.inj (ho.symm.trans (iA (Nat.le_refl 1) aa));subst e;exact D.st1 ok ht hnth hrt h1 hon
   by_cases h2:pos who<d.S+2+eq d.S (snap who) (d.bk (snap who)) (d.r (snap who) (aD t));·exact D.st2 ok ht hnth hrt aa h2 ho
   by_cases h3:pos who+2≤(d.ops (snap who) (aD t)).length;·exact D.st3 ok ht hnth hrt aa h3 ho
   have e4:pos who=2*d.S+3+eq d.S (snap who) (d.bk (snap who)) (d.r (snap who) (aD t)):=aa;have e:o=cW 4 0 false:=by rw[e4]at ho;exact Option.some.inj (ho.symm.trans na)
   subst e;exact D.st4 ok ht aa aa
end
end
end Go.Proofs.YtnncjbkepakgpaaGreat
