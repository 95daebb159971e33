/- WHO IS DIALLED NEXT. A DIAL's PARTS: the book is kept. A DIAL's PARTS: the book is kept; what it sees. -/
import Derived.Test.YtnncjbkepakgpaaGreatA39
namespace Go.Proofs.YtnncjbkepakgpaaGreat
open Go.RowKit Qv
set_option linter.unusedVariables false
set_option linter.unusedSimpArgs false
set_option maxRecDepth 100000
set_option maxHeartbeats 800000
section
attribute[local go_sem high]ah
attribute[local simp high]ah
noncomputable def K3(now:Int)(P:List Pe)(L:List En)(N:List (Nt×Int)):Nat→List It→Option Ed
 |0,_=>none
 |_+1,[]=>none
 |f+1,x::r=>if Mn now P L N x.e=true then some x.e else K3 now P L N f (zh x r)
noncomputable def K5(now:Int)(P:List Pe)(L:List En)(N:List (Nt×Int)):Option Ed:=K3 now P L N (CD (ku (Gq now) L)).length (CD (ku (Gq now) L))
def Q5:Option Ed→Value
 |some e=>.tuple #[.agg #[e.six,J e.hi,J e.lo,e.port],Y]
 |none=>.tuple #[.agg #[F,U,U,Z],F]
theorem yP{now:Int}{P:List Pe}{L:List En}{N:List (Nt×Int)}{e:Ed}:∀(f:Nat)(h:List It),K3 now P L N f h=some e→Mn now P L N e=true∧∃x∈h,x.e=e
 |0,h,k=>by cases k
 |f+1,[],k=>by cases k
 |f+1,x::r,k=>by
  rw[K3]at k;by_cases ho:Mn now P L N x.e=true;·rw[if_pos ho]at k;cases k;exact⟨ho,x,ay,rfl⟩
  ·rw[if_neg ho]at k;obtain⟨k1,y,hy,k2⟩:=yP f _ k;exact⟨k1,y,zi hy,k2⟩
theorem CF{L:List It}{x:It}(h:x∈CD L):x∈L:=CI _ _ _ h
theorem CE(L:List It):(CD L).length=L.length:=CH _ _
theorem yQ{now:Int}{P:List Pe}{L:List En}{N:List (Nt×Int)}{e:Ed}(h:K5 now P L N=some e):Mn now P L N e=true∧∃y∈L,y.e=e∧Gq now y=true:=by obtain⟨h1,x,hx,rfl⟩:=yP _ _ h;have:=CF hx;unfold ku at this;obtain⟨y,hy,rfl⟩:=List.mem_map.1 this;obtain⟨hy,hd⟩:=List.mem_filter.1 hy;exact⟨h1,y,hy,rfl,hd⟩
def Eo(e:Ed):Prop:=U6 e.hi∧U6 e.lo∧ir e.six e.hi e.lo=true
theorem lf.eo{y:En}(h:lf y):Eo y.e:=⟨h.1,h.2.1,by have:=h.2.2.1;unfold Jd at this;rw[Bool.and_eq_true]at this;exact this.1⟩
theorem NR{P:En→Bool}{L:List En}(h:∀y∈L,lf y):∀x∈CD (ku P L),Eo x.e:=fun x hx=>by have:=CF hx;unfold ku at this;obtain⟨y,hy,rfl⟩:=List.mem_map.1 this;exact(h y (List.mem_filter.1 hy).1).eo
theorem QY(args:Array Value)(w:World):(callFunc 254 args).run Tryz.prog w= .ok (.enter 254 args) w:=enters_of Tryz.func254 af rfl args w
theorem QZ(args:Array Value)(w:World):(callFunc 258 args).run Tryz.prog w= .ok (.enter 258 args) w:=enters_of Tryz.func258 af rfl args w
theorem LH(now:Int)(P:List Pe)(L:List En)(N:List (Nt×Int))(ok:DN P L N)(vk vp vb:Value)(w:World)(hV:Vw w P L N vk vp vb):Calls Tryz.prog 203 #[.agg #[vk,vp,vb],now] w fun r w'=>(∃n:Int,r= .returned n)∧Below w.heap.size w w':=by
 have HI:=Lib.hid (fun(b:Nat)(W:World)(k:Below w.heap.size w W)(hb0:Bo W b 3 1 #[.int .i64 now])(ap ab:Option Addr)(mp cp mb cb':Nat)=>yD (OU now) 258 b now (fun y W h=>I5 y now b W h) QZ L ok.l xS ap ab mp cp mb cb' vk W (hV.k.below k) hb0);obtain⟨ak,ck,ek,-⟩:=id hV.k;obtain⟨ap,cp,ep,-⟩:=id hV.p;obtain⟨ab,cb',eb,-⟩:=id hV.b;have hln:(CD (ku (OU now) L)).length≤90000:=by rw[CE];have:=sK (OU now) L;have:=ok.hl;omega
 subst ek ep eb;clear hV ok;generalize(L.map bh).length=nk at*;generalize(P.map eT).length=np at*;generalize(N.map di).length=nb at*;go_enter Tryz.func203,Tryz.ntmps203;go_wp2_with fail;refine en 2 [(300,3,_),(3,1,_)] ?_;intro WB HB d0 sWB fHB;simp only[Bx,Bo]at fHB;refine(HI.out _ WB d0 HB.out.2.1 _ _ _ _ _ _).mono ?_;rintro r w1⟨v',rfl,hO,hb⟩;have HB1:=cD hb HB;have d1:=dE d0 hb;have s1:=hb.size;have hS:=Lib.hid hO.sl;have fB1:=HB1.out;simp only[Bx,Bo]at fB1;clear hb fHB hO;generalize CD (ku (OU now) L)=Hx at*;go_wp2_with fail;cases Hx with
  |nil=>refine(Ij v' w1 hS.out).mono ?_;rintro r w2⟨rfl,hb⟩;have d2:=dE d1 hb;clear hb;go_wp2;go_ret;exact⟨⟨_,rfl⟩,d2.trans ((cb:Below w2.heap.size w2 _).mono d2.size)⟩
  |cons x r=>refine(Ii x r v' w1 hS.out (by simp at hln;omega)).mono ?_;rintro r w2⟨v2,rfl,hO,hb⟩;have d2:=dE d1 hb;simp only[kV];clear hb hO;go_wp2;go_ret;exact⟨⟨_,rfl⟩,d2.trans ((cb:Below w2.heap.size w2 _).mono d2.size)⟩
theorem K0(now:Int)(P:List Pe)(L:List En)(N:List (Nt×Int))(ok:DN P L N)(vk vp vb:Value)(w:World)(hV:Vw w P L N vk vp vb):Calls Tryz.prog 202 #[.agg #[vk,vp,vb],now] w fun r w'=>r= .returned (Q5 (K5 now P L N))∧Below w.heap.size w w':=by
 have HI:=Lib.hid (fun(b:Nat)(W:World)(k:Below w.heap.size w W)(hb0:Bo W b 3 1 #[.int .i64 now])(ap ab:Option Addr)(mp cp mb cb':Nat)=>yD (Gq now) 254 b now (fun y W h=>J7 y now b W h) QY L ok.l xS ap ab mp cp mb cb' vk W (hV.k.below k) hb0);have HP:=Lib.hid (fun(e:Ed)(he:Eo e)(W:World)(k:Below w.heap.size w W)=>KV now P L N ok e he.1 he.2.1 he.2.2 vk vp vb W (hV.below k));obtain⟨ak,ck,ek,-⟩:=id hV.k;obtain⟨ap,cp,ep,-⟩:=id hV.p;obtain⟨ab,cb',eb,-⟩:=id hV.b;have hln:(CD (ku (Gq now) L)).length≤90000:=by rw[CE];have:=sK (Gq now) L;have:=ok.hl;omega
 have hEo:=Lib.hid (NR (P:=Gq now) ok.l);unfold K5;subst ek ep eb;clear hV ok;generalize(L.map bh).length=nk at*;generalize(P.map eT).length=np at*;generalize(N.map di).length=nb at*;generalize CD (ku (Gq now) L)=Hx at*;go_enter Tryz.func202,Tryz.ntmps202;go_wp2_with fail;refine en 3 [(300,3,_),(3,1,_),(36,4,_)] ?_;intro WB HB d0 sWB fHB;simp only[Bx,Bo]at fHB;refine(HI.out _ WB d0 HB.out.2.1 _ _ _ _ _ _).mono ?_;rintro r w1⟨v',rfl,hO,hb⟩;have HB1:=cD hb HB;have d1:=dE d0 hb;have s1:=hb.size;have hS:=Lib.hid hO.sl;have fB1:=HB1.out;simp only[Bx,Bo]at fB1;clear hb fHB hO HI;go_wp2_with fail;go_loopg[6]Hx.length(fun g s6 wr=>∃h:List It,h.length=g∧g≤90000∧Hid (K3 now P L N g h=K3 now P L N Hx.length Hx)∧Hid (∀x∈h,Eo x.e)∧Hid (Sl wr s6 5 (h.map kV))∧Hid (Bx wr w.heap.size [(300,3,#[E ak nk ck,E ap np cp,E ab nb cb']),(3,1,#[now]),(36,4,#[F,U,U,Z])]∧Below w.heap.size w wr));case atStart=>exact⟨Hx,rfl,hln,Lib.hid rfl,hEo,hS,Lib.hid ⟨HB1.out,d1⟩⟩
 case round=>
  obtain⟨h,hg,hgl,he,hE,hSr,HH⟩:=hrel;obtain⟨hBr,dr⟩:=HH.out;have HBr:=Lib.hid hBr;have fBr:=hBr;simp only[Bx,Bo]at fBr;clear HH hBr fB1 hS hEo hln;cases h with
   |nil=>
    have he':K3 now P L N Hx.length Hx=none:=by rw[←he.out,←hg];rfl
    replace he':=Lib.hid he';clear he;go_wp2_with fail;refine(Ij _ _ hSr.out).mono ?_;rintro r w2⟨rfl,hb⟩;have HB2:=cD hb HBr;have d2:=dE dr hb;have fB2:=HB2.out;simp only[Bx,Bo]at fB2;clear hb fBr;go_wp2;refine bodyPost_ret (v:=.tuple #[.agg #[F,U,U,Z],F]) (ci (t:=36) Tryz.results202 _ _ _ rfl ?_ ?_ pg BM) rfl ?_;·go_simp
    ·go_simp
    exact⟨by rw[he'.out];rfl,(ai d2 aa _).alloc (by rw[cX];exact d2.size) _⟩
   |cons x r=>
    cases gk with
     |zero=>cases hg
     |succ g'=>
      have hgr:r.length=g':=by simpa using hg
      have he1:=he.out;rw[K3]at he1;have hx:=hE.out x ay;go_wp2_with fail;refine(Ii x r _ _ hSr.out aa).mono ?_;rintro r w2⟨v2,rfl,hO,hb⟩;have HB2:=cD hb HBr;have d2:=dE dr hb;have s2:=hb.size;have hS2:=Lib.hid hO.sl;have fB2:=HB2.out;simp only[Bx,Bo]at fB2;simp only[kV];have hPx:=Lib.hid (fun(W:World)(k:Below w.heap.size w W)=>HP.out x.e hx W k);clear hb fBr hO hSr hg he hx;go_wp2_with fail;refine(hPx.out _ (d2.trans ((cb:Below w2.heap.size w2 _).mono d2.size))).mono ?_;rintro r w3⟨rfl,hb⟩;have HX:=Lib.hid (Bx.mono (g:=w2.heap.size) (L:=[(355,5,#[x.k,x.e.six,J x.e.hi,J x.e.lo,x.e.port])]) hb dY ay);have b3:Below w2.heap.size w2 w3:=((Below.refl w2.heap.size w2).alloc (Nat.le_refl _) _).trans (hb.mono ay);have s3:=b3.size;have hS3:=Lib.hid (hS2.out.below b3);have HB3:=cD b3 HB2;have d3:=d2.trans (b3.mono d2.size);have fX:=HX.out;have fB3:=HB3.out;simp only[Bx,Bo]at fX fB3;replace he1:=Lib.hid he1;clear hb fB2 b3 hPx hS2;cases ho:Mn now P L N x.e;·
       replace ho:=Lib.hid ho;go_wp2_with fail;go_roundg g';case measure=>omega
       case rel=>exact⟨zh x r,(Ih x r).trans hgr,aa,Lib.hid (by have h1:=he1.out;rw[if_neg (by rw[ho.out];decide)]at h1;exact h1),Lib.hid (fun y hy=>hE.out y (zi hy)),hS3,Lib.hid ⟨HB3.out,d3⟩⟩
      ·replace ho:=Lib.hid ho;have hz:=Lib.hid (show K3 now P L N Hx.length Hx=some x.e by have h1:=he1.out;rw[if_pos ho.out]at h1;exact h1.symm);go_wp2;refine bodyPost_ret (v:=.tuple #[.agg #[x.e.six,J x.e.hi,J x.e.lo,x.e.port],Y]) (ci (t:=36) Tryz.results202 _ _ _ rfl ?_ ?_ pg BM) rfl ?_;·go_simp
       ·go_simp
       exact⟨by rw[hz.out];rfl,ai d3 aa _⟩
end
section
attribute[local go_sem high]ah
attribute[local simp high]ah
theorem CX:(Tryz.prog.info? 205).map (·.size)=some 28:=af
theorem rO:lj 205:=fun _ _ _ _ _ _ _=>rfl
theorem ub:lh 205 28:=l6 CX Tryz.underlying205 rfl
theorem qw:ll 205:=fun _ _ _ _ _ _ _ _=>rfl
theorem tf:li 205 28:=mG CX
attribute[go_sem↓]rO qw
attribute[go_sem]ub tf
def eQ(T:Nat)(W:World):List (Nat×TypeId×Nat×Array Value)→Prop
 |[]=>True
 |(g,t,n,C)::r=>(T<g∧Bo W g t n C)∧eQ T W r
def OJ(R:Nat→Prop)(W:World):List (Value×Nat×Option (List (Array Value)))→Prop
 |[]=>True
 |(v,n,L)::r=>So R W v n L∧OJ R W r
section
variable{R:Nat→Prop}{T:Nat}{w W W':World}{vs vs':List Vl}{xs:List (Value×Nat×Option (List (Array Value)))}{bs:List (Nat×TypeId×Nat×Array Value)}
theorem eQ.keep(k:∀g,T<g→g<W.heap.size→W'.heap[g]? =W.heap[g]?):∀{bs:List (Nat×TypeId×Nat×Array Value)},eQ T W bs→eQ T W' bs
 |[],_=>trivial
 |(g,t,n,C)::r,h=>⟨⟨h.1.1,Bo.of ((k g h.1.1 h.1.2.2.2.2.1).trans h.1.2.heap.1) h.1.2.heap.2⟩,eQ.keep k h.2⟩
theorem OJ.keep(k:Kp R W W'):∀{xs:List (Value×Nat×Option (List (Array Value)))},OJ R W xs→OJ R W' xs
 |[],_=>trivial
 |(v,n,L)::r,h=>⟨h.1.keep k fun _ h=>h,OJ.keep k h.2⟩
structure Cx(R:Nat→Prop)(T:Nat)(w W:World)(vs:List Vl)(xs:List (Value×Nat×Option (List (Array Value))))(bs:List (Nat×TypeId×Nat×Array Value)):Prop where
 lt:T<w.heap.size
 r:∀q,R q→q<w.heap.size
 u:ax T w W
 t:ft R W T vs
 x:OJ R W xs
 b:eQ T W bs
theorem Cx.r'(h:Cx R T w W vs xs bs):∀q,R q→q<W.heap.size:=fun q hq=>Nat.lt_of_lt_of_le (h.r q hq) h.u.size
theorem Cx.nT(h:Cx R T w W vs xs bs):¬Rn R w.heap.size T:=fun e=>e.elim h.t.nT fun e=>by have:=h.lt;omega
theorem Cx.start(h:ft R w T vs)(r:∀q,R q→q<w.heap.size):Cx R T w w vs [] []:=⟨h.lt,r,ax.refl _ _,h,trivial,trivial⟩
theorem Cx.below(h:Cx R T w W vs xs bs)(k:Below W.heap.size W W'):Cx R T w W' vs xs bs:=⟨h.lt,h.r,h.u.trans (ax.of_below k),h.t.below k,h.x.keep (Kp.below k),h.b.keep fun g _ hg=>k.block g hg⟩
theorem Cx.call(h:Cx R T w W vs xs bs)(hu:ax T W W')(t:ft R W' T vs'):Cx R T w W' vs' xs bs:=⟨h.lt,h.r,h.u.trans hu,t,h.x.keep (Kp.upto hu h.t.nT),h.b.keep fun g hT hg=>hu.block g hg (Nat.ne_of_gt hT)⟩
theorem Cx.addx{v:Value}{n:Nat}{L:Option (List (Array Value))}(h:Cx R T w W vs xs bs)(hx:So R W v n L):Cx R T w W vs ((v,n,L)::xs) bs:=⟨h.lt,h.r,h.u,h.t,⟨hx,h.x⟩,h.b⟩
theorem Cx.addb{g n:Nat}{t:TypeId}{C:Array Value}(h:Cx R T w W vs xs bs)(hT:T<g)(hb:Bo W g t n C):Cx R T w W vs xs ((g,t,n,C)::bs):=⟨h.lt,h.r,h.u,h.t,h.x,⟨⟨hT,hb⟩,h.b⟩⟩
def fg:Nat→List (TypeId×Nat×Array Value)→List (Nat×TypeId×Nat×Array Value)
 |_,[]=>[]
 |g,x::r=>(g,x)::fg (g+1) r
theorem eQ.bx:∀{L:List (TypeId×Nat×Array Value)}{g:Nat},T<g→Bx W g L→eQ T W (fg g L)
 |[],_,_,_=>trivial
 |(t,n,C)::r,g,hT,h=>⟨⟨hT,h.1⟩,eQ.bx aa h.2⟩
theorem Cx.boxes{g:Nat}{L:List (TypeId×Nat×Array Value)}(h:Cx R T w W vs xs [])(hT:T<g)(hb:Bx W g L):Cx R T w W vs xs (fg g L):=⟨h.lt,h.r,h.u,h.t,h.x,eQ.bx hT hb⟩
theorem Cx.setb{g n:Nat}{t:TypeId}{C C':Array Value}(h:Cx R T w W vs xs ((g,t,n,C)::bs))(hn:C'.size=n)(hg:w.heap.size≤g)(hne:∀b∈bs,b.1≠g):Cx R T w (W.setRow g C') vs xs ((g,t,n,C')::bs):=by
 obtain⟨h1,h2,h3,h4,h5,⟨h6,h7⟩,h8⟩:=h;have hR:¬R g:=fun e=>by have:=h2 g e;omega
 obtain⟨k1,L,k2,k3⟩:=h4;refine⟨h1,h2,fD h3 hg _,⟨k1,L,k2.setRow h6 _,k3.keep cM (Kp.setRow hR) fun _ h=>h⟩,h5.keep (Kp.setRow hR),⟨h6,Bo.of ?_ hn⟩,?_⟩;·have:=bK (ip (C:=C') h7.1 hn);rw[j3 h7.1]at this;exact this.1
 ·clear h5 h2 hR;induction bs with
   |nil=>trivial
   |cons b r ih=>obtain⟨g',t',n',D⟩:=b;have e:=hne _ (List.mem_cons_self ..);exact⟨⟨h8.1.1,Bo.of ((aY _ _ _ _ e).trans h8.1.2.heap.1) h8.1.2.heap.2⟩,ih (fun b hb=>hne b (List.mem_cons_of_mem _ hb)) h8.2⟩
theorem Cx.out{g:Nat}{C':Array Value}(h:Cx R T w W vs xs bs)(hg:w.heap.size≤g):Cx R T w (W.setRow g C') vs xs []:=by
 obtain⟨h1,h2,h3,h4,h5,-⟩:=h;have hR:¬R g:=fun e=>by have:=h2 g e;omega
 obtain⟨k1,L,k2,k3⟩:=h4;exact⟨h1,h2,fD h3 hg _,⟨k1,L,k2.setRow aa _,k3.keep cM (Kp.setRow hR) fun _ h=>h⟩,h5.keep (Kp.setRow hR),trivial⟩
theorem Cx.low{B:Nat}(h:Cx R T w W vs xs bs)(k:Below B W W')(hB:w.heap.size≤B)(hb:∀b∈bs,b.1<B):Cx R T w W' vs xs bs:=by
 have hR:Kp R W W':=⟨k.size,fun q hq _=>k.block q (by have:=h.r q hq;omega)⟩;obtain⟨k1,L,k2,k3⟩:=h.t;refine⟨h.lt,h.r,⟨k.os.trans h.u.os,k.tape.trans h.u.tape,k.output.trans h.u.output,Nat.le_trans h.u.size k.size,fun g hg hT=>(k.block g aa).trans (h.u.block g hg hT)⟩,⟨k1,L,k2.low (by have:=h.lt;omega) k,k3.keep cM hR fun _ h=>h⟩,h.x.keep hR,?_⟩;have h8:=h.b;clear h k2 k3 hR;induction bs with
  |nil=>trivial
  |cons b r ih=>obtain⟨g',t',n',D⟩:=b;have e:=hb _ (List.mem_cons_self ..);exact⟨⟨h8.1.1,Bo.of ((k.block g' e).trans h8.1.2.heap.1) h8.1.2.heap.2⟩,ih (fun b hb'=>hb b (List.mem_cons_of_mem _ hb')) h8.2⟩
theorem So.own{B n:Nat}{e:TypeId}{v:Value}{L:List (Array Value)}(h:aV W B e n v L):So (Rn R B) W v n (some L):=⟨h.sl,fun q hq=>.inr (h.base hq).1⟩
end
theorem BO(w:World):Calls Tryz.prog 152 #[] w fun e w'=>e= .returned (.agg #[I 4,Z,Z])∧Below w.heap.size w w':=by go_enter Tryz.func152,Tryz.ntmps152;go_wp2;exact bodyPost_ret (v:=.agg _) (aN (t:=101) Tryz.results152 _ _ _ rfl bG bG ji wd) rfl ⟨rfl,cb⟩
theorem ta(c:Int)(w:World):Calls Tryz.prog 146 #[c] w fun e w'=>e= .returned (.agg #[c,F,U,U,Z,Z,Z,V])∧Below w.heap.size w w':=by go_enter Tryz.func146,Tryz.ntmps146;go_wp2;exact bodyPost_ret (v:=.agg _) (aN (t:=64) Tryz.results146 _ _ _ rfl bG bG fi ic) rfl ⟨rfl,cb⟩
end
section
attribute[local go_sem high]ah
attribute[local simp high]ah
theorem pz{p:Prop}(h:p:=by
 refine ba ?_;refine bl 9 ?_;simp only[PL];go_wp2_with fail;refine(g9 (m:=m) (l:=kX m S 0++l) 4 0 0 (.inl ⟨az,rfl,rfl⟩) HC.out.t).mono ?_;rintro e w9⟨hu,hz|⟨k9,hk9,v,rfl,⟨C,rfl,hV⟩,hT1⟩⟩;·obtain⟨o,O,ho,rfl,hO⟩:=hz;exact⟨rfl,Cd.pan HC.out.u hu [dI 3 0 0] (kX m S 0) rfl hk2 ⟨o,O,ho,rfl,hO⟩⟩
 obtain⟨q2,q3,q4,q5,q6,q7,q8,q9,q10,q11,a5b,m5b,c5b,a6b,m6b,c6b,rfl,-,-,h5,h6⟩:=fq hV;have sz9:=hu.size;replace hT1:ft R w9 T ((ej m (kX m S 0++l)).take k9):=hT1;have HC:=Lib.hid ((HC.out.call hu hT1).addx h6);clear hT1 hV hu h5 h6;go_wp2;refine ba ?_;refine bE [10,11] 1 ?_;iterate 2 refine pO ?_
 refine pE ?_;refine bl 13 ?_;simp only[PL];have fC:=HC.out.b;simp only[fg,eQ,Bo]at fC;go_wp2;refine ba ?_;refine cU ?_;have HE:=Lib.hid (HC.out.setb (C':=#[E a6b m6b c6b,V,E a5 m5 c5]) rfl (by(try simp at sz2);omega) (by(try simp at sz2);simp[fg];omega));go_wp2_with fail;go_meet;exact⟨_,k9,a5,a6b,m5,c5,m6b,c6b,rfl,Lib.hid (Pr),Lib.hid (by(try simp at sz2);rw[cX];omega),HE⟩):p:=h
theorem MO{ops:Array Oper}{rest:List Oper}{o:Oper}{a:Act}{w:World}{Q:Exit→Act→World→Prop}(hgd:o.guard=none)(s x:Operand)(ho:o.op= .call {callee:=.builtin .append,args:=#[s,x],argTypes:=#[55,55]})(B:Nat)(v:Value)(L M:List (Array Value))(hs:a.eval s=v)(hown:aV w B 75 10 v L)(u:Value)(hx:a.eval x=u)(hM:Sl w u 10 M)(hlen:L.length+M.length≤200000)(hbase:B≤w.heap.size)(h:∀v' w',aV w' B 75 10 v' (L++M)→Below B w w'→wpList Tryz.prog ops Q rest (a.put o.dst v') w'):wpList Tryz.prog ops Q (o::rest) a w:=by
 obtain⟨ad,cap,rfl,h1,h2,h3⟩:=id hM;rcases h3 with⟨rfl,rfl⟩|⟨g,o',rfl,hg,h3⟩;·obtain⟨i0,hi,-⟩:=info_parts jf;exact Lib.wpList_append_run w hgd s x 55 55 ho _ _ hs hx v w (ln 55 75 i0 Tryz.underlying55 hi hown _ cap) (h v w jb (Below.refl _ _))
 ·exact pD hgd s x ho B v L M hs hown _ _ _ hx hM hlen hbase fun v' w' k1 k2 _=>h v' w' k1 k2
section
variable{R:Nat→Prop}{T:Nat}{m:Mm}{os l:List Oq}{k:Nat}{ret:Value→World→Prop}{w w1 w':World}{e:Ending}
structure vY(D:Array Value)(S:Nat)(mo now:Int):Prop where
 n:D.size=28
 o:bB D=true
 e1:D[1]'(by rw[n];decide)= .int .i64 mo
 e2:D[2]'(by rw[n];decide)= .int .i64 S
 e3:D[25]'(by rw[n];decide)= .int .i64 now
theorem Hd(D:Array Value)(hD:D.size=28)(oD:bB D=true)(L:List En)(y:En)(v:Value)(hs:Sl w v 7 (L.map bh))(hl:L.length≤90000)(h:ft R w T ((ej m (Fh (some ((oS L y).map bh))::l)).take k)):Calls Tryz.prog 204 #[.agg D,.iface 280 (H T 0),v,.agg (bh y)] w (Cd R T m [Fh (some ((oS L y).map bh))] l k (fun v _=>v= .tuple #[]) w):=by
 have hlt:=h.lt;have HT:=Lib.hid h;have hset:=Lib.hid (fun W(k:Below w.heap.size w W)=>JH L y v W (hs.below k) aa);simp only[bh];clear h hs;go_enter Tryz.func204,Tryz.ntmps204;go_upto_region 1 with(fail);refine jg 2 [(205,28,_),(77,7,_)] ?_ (by repeat' first|assumption|constructor);intro WB HB d0 sWB fHB;simp only[Bx,Bo]at fHB;have HF:=Lib.hid (fun(W:World)(hS:(ax T WB) W)=>Bx.upto hS HB.out (.inl hlt));refine cQ (ax T WB) [0,2,3,6,7,8] 4 ?_;iterate 6 refine pO ?_
 refine pE ?_;refine bl 1 ?_;simp only[PL];go_wp2_with fail;refine(BO _).mono ?_;rintro e w1⟨rfl,hb⟩;have k1:Below WB.heap.size WB w1:=aj hb cb cs;have hk1:=aw.mk k1;clear hb;go_wp2;refine ba ?_;refine bl 4 ?_;simp only[PL];go_wp2_with fail;refine(hset.out w1 (d0.trans (k1.mono aa))).mono ?_;rintro e w2⟨v',rfl,hO,hb⟩;have k2:Below WB.heap.size WB w2:=k1.trans (hb.mono k1.size);have hk2:=aw.mk k2;have s1:=k1.size;obtain⟨a',cap',rfl,-⟩:=id hO.sl;rw[List.length_map]at hO⊢;have hS2:=Lib.hid (show Sr (Rn R w.heap.size) w2 (E a' (oS L y).length cap') 7 ((oS L y).map bh)from⟨hO.sl,fun q hq=>.inr (by have:=(hO.base hq).1;omega)⟩);have hT2:=Lib.hid (show(Value.slice a' (oS L y).length cap').ownBlock≠some T from fun hq=>by have:=(hO.base hq).1;omega);clear hb hO;go_wp2;refine ba ?_;refine bE [5] 1 ?_;refine pO ?_;refine pE ?_;refine bl 9 ?_;simp only[PL];go_wp2_with fail;refine(JI w.heap.size _ _ _ _ _ rfl hS2.out hT2.out (HT.out.below (d0.trans (k2.mono aa)))).mono ?_;rintro e w3⟨hu,hz|⟨k',hk',v,rfl,⟨C,rfl,-⟩,hT3⟩⟩;·obtain⟨o,O,ho,rfl,hO⟩:=hz;exact⟨rfl,Cd.panB ((ax.of_below d0).trans (ax.of_below k2)) hu [] [] rfl ay ⟨o,O,ho,rfl,hO⟩ (Nat.le_refl _)⟩
 have hu':ax T WB w3:=(ax.of_below k2).trans hu;have HT3:=Lib.hid hT3;clear hT3 hu;go_wp2;refine ba ?_;refine cU ?_;go_wp2;exact bodyPost_end (results_none rfl _ _ _) rfl (Cd.fin ((ax.of_below d0).trans hu') hk' _ rfl rfl HT3.out)
def ER(m:Mm):List (Array Value):=m.sh.flatMap (·.2)
theorem gI(j:Nat):cx m (fp m j)=m:=fF _ _ fun o ho=>by
 simp only[fp,List.mem_cons,List.mem_map]at ho;rcases ho with rfl|⟨i,-,rfl⟩;·exact⟨BY,by show(5:Int)≠7;decide⟩
 ·exact⟨BY,by show(5:Int)≠7;decide⟩
def kX(m:Mm):Nat→Nat→List Oq
 |0,_=>[]
 |g+1,j=>fp m j++kX m g (j+1)
theorem Iu:∀(g j:Nat),kX m g j=(List.range g).flatMap fun i=>fp m (j+i)
 |0,_=>rfl
 |g+1,j=>by rw[kX,Iu g,List.range_succ_eq_map,List.flatMap_cons,List.flatMap_map];refine congrArg _ ?_;congr 1;funext i;rw[show j+1+i=j+(i+1)by omega]
theorem Lb(S:Nat):(List.range S).flatMap (fp m)=kX m S 0:=by rw[Iu];congr 1;funext i;rw[Nat.zero_add]
theorem sZ(g j:Nat):cx m (kX m g j)=m:=by
 induction g generalizing j with
  |zero=>rfl
  |succ g ih=>rw[kX,bP,gI,ih]
theorem GM{n:Nat}:∀(L:List (Int×List (Array Value))),(∀x∈L,x.2.length≤900)→L.length≤n→(L.flatMap (·.2)).length≤900*n
 |[],_,_=>ay
 |x::L,h,hn=>by
  cases n with
   |zero=>simp at hn
   |succ n=>have h1:=GM (n:=n) L (fun y hy=>h y (by simp[hy])) (by simpa using hn);have h2:=h x ay;rw[List.flatMap_cons,List.length_append];omega
theorem Lo(D:Array Value)(S:Nat)(mo now:Int)(hD:vY D S mo now)(hS:m.sh.length=S)(hS8:S≤8)(hsl:∀x∈m.sh,x.1=(x.2.length:Int)∧x.2.length≤900)(hR:∀q,R q→q<w.heap.size)(h:ft R w T ((ej m (dI 3 0 0::dI 4 0 0::(kX m S 0++l))).take k)):Calls Tryz.prog 201 #[.agg D,.iface 280 (H T 0)] w (Cd R T m (dI 3 0 0::dI 4 0 0::kX m S 0) l k (fun v w'=>∃vk vp vb,v= .agg #[vk,vp,vb]∧So R w' vk 7 m.bk∧Sr (w.heap.size≤·) w' vp 10 (ER m)∧So R w' vb 5 m.bn) w):=by
 have hlt:=h.lt;have HC:=Lib.hid (Cx.start h hR);have hD0:=hD.n;have hD1:=hD.o;have hD2:=hD.e2;clear h;go_enter Tryz.func201,Tryz.ntmps201;go_upto_region 1 with(fail);refine jg 2 [(205,28,_),(300,3,_)] ?_ (by repeat' first|assumption|constructor);intro WB HB d0 sWB fHB;simp only[Bx,Bo]at fHB;have HC:=Lib.hid ((HC.out.below d0).boxes hlt HB.out);replace HC:=Lib.hid (HC.out.below (cb:Below WB.heap.size WB WB.drew));go_cut[5](fun v5 wx=>∃(b k2:Nat)(a5 a6:Option Addr)(m5 c5 m6 c6:Nat),v5= .pointer (some ⟨b,0,none⟩)∧Hid (k=2+k2)∧Hid (w.heap.size+2≤b∧b<wx.heap.size)∧Hid (Cx R T w wx ((ej m (kX m S 0++l)).take k2) [(E a6 m6 c6,7,m.bk),(E a5 m5 c5,5,m.bn)] [(b,300,3,#[E a6 m6 c6,V,E a5 m5 c5]),(w.heap.size,205,28,D),(w.heap.size+1,300,3,#[V,V,V])]));case first=>
  have HF:=Lib.hid (fun(W:World)(hS:((fun _:World=>True)) W)=>id (α:=Bx W 0 []) trivial);refine cQ ((fun _:World=>True)) [0,1,4,6,7,8] 8 ?_;iterate 6 refine pO ?_
  refine pE ?_;refine xo 2 12 ?_ ?_;·
   simp only[PL];go_wp2_with fail;refine(g9 (m:=m) (l:=dI 4 0 0::(kX m S 0++l)) 3 0 0 (.inl ⟨az,rfl,rfl⟩) HC.out.t).mono ?_;rintro e w2⟨hu,hz|⟨k2,hk2,v,rfl,⟨C,rfl,hV⟩,hT1⟩⟩;·obtain⟨o,O,ho,rfl,hO⟩:=hz;exact⟨rfl,Cd.pan HC.out.u hu [] (dI 4 0 0::kX m S 0) rfl ay ⟨o,O,ho,rfl,hO⟩⟩
   obtain⟨q2,q3,q4,q5,q6,q7,q8,q9,q10,q11,a5,m5,c5,a6,m6,c6,rfl,-,-,h5,h6⟩:=fq hV;have sz2:=hu.size;replace hT1:ft R w2 T ((ej m (dI 4 0 0::(kX m S 0++l))).take k2):=hT1;have HC:=Lib.hid ((HC.out.call hu hT1).addx h5);clear hT1 hV hu h5 h6;go_wp2;refine ba ?_;refine bE [3] 6 ?_;refine pO ?_;refine pE ?_;refine xo 5 12 ?_ ?_;·
    simp only[PL];go_wp2_with fail;refine(BO _).mono ?_;rintro e w5⟨rfl,hb⟩;have sz5:=hb.size;have HC:=Lib.hid (HC.out.below hb);clear hb;go_wp2;refine ba ?_;refine xo 9 12 ?_ ?_;·
     simp only[PL];go_wp2_with fail;refine(g9 (m:=m) (l:=kX m S 0++l) 4 0 0 (.inl ⟨az,rfl,rfl⟩) HC.out.t).mono ?_;rintro e w9⟨hu,hz|⟨k9,hk9,v,rfl,⟨C,rfl,hV⟩,hT1⟩⟩;·obtain⟨o,O,ho,rfl,hO⟩:=hz;exact⟨rfl,Cd.pan HC.out.u hu [dI 3 0 0] (kX m S 0) rfl hk2 ⟨o,O,ho,rfl,hO⟩⟩
     obtain⟨q2,q3,q4,q5,q6,q7,q8,q9,q10,q11,a5b,m5b,c5b,a6b,m6b,c6b,rfl,-,-,h5,h6⟩:=fq hV;have sz9:=hu.size;replace hT1:ft R w9 T ((ej m (kX m S 0++l)).take k9):=hT1;have HC:=Lib.hid ((HC.out.call hu hT1).addx h6);clear hT1 hV hu h5 h6;go_wp2;refine ba ?_;refine bE [10,11] 2 ?_;iterate 2 refine pO ?_
     refine pE ?_;refine bl 12 ?_;simp only[PL];have szx:w9.heap.size<(w9.alloc (.cells #[V,V,V] 300)).heap.size:=ay;go_wp2;have HC:=Lib.hid ((HC.out.below (cb:Below w9.heap.size w9 (w9.alloc (.cells #[V,V,V] 300)))).addb (show T<w9.heap.size from HC.out.t.lt) ((dY:Bx (w9.alloc (.cells #[V,V,V] 300)) w9.heap.size [(300,3,#[V,V,V])]).1));generalize hbe:w9.heap.size=be at*;generalize w9.alloc (.cells #[V,V,V] 300)=wx at*;refine ba ?_;refine bl 13 ?_;simp only[PL];have fC:=HC.out.b;simp only[fg,eQ,Bo]at fC;go_wp2;refine ba ?_;refine cU ?_;have HE:=Lib.hid (HC.out.setb (C':=#[E a6b m6b c6b,V,E a5 m5 c5]) rfl (by(try simp at sz2);omega) (by(try simp at sz2);simp[fg];omega));go_wp2_with fail;go_meet;exact⟨_,k9,a5,a6b,m5,c5,m6b,c6b,rfl,Lib.hid (Pr),Lib.hid (by(try simp at sz2);rw[cX];omega),HE⟩
    ·simp only[PL];have szx:w5.heap.size<(w5.alloc (.cells #[V,V,V] 300)).heap.size:=ay;go_wp2;have HC:=Lib.hid ((HC.out.below (cb:Below w5.heap.size w5 (w5.alloc (.cells #[V,V,V] 300)))).addb (show T<w5.heap.size from HC.out.t.lt) ((dY:Bx (w5.alloc (.cells #[V,V,V] 300)) w5.heap.size [(300,3,#[V,V,V])]).1));generalize hbe:w5.heap.size=be at*;generalize w5.alloc (.cells #[V,V,V] 300)=wx at*;exact pz
   ·simp only[PL];have szx:w2.heap.size<(w2.alloc (.cells #[V,V,V] 300)).heap.size:=ay;go_wp2;have HC:=Lib.hid ((HC.out.below (cb:Below w2.heap.size w2 (w2.alloc (.cells #[V,V,V] 300)))).addb (show T<w2.heap.size from HC.out.t.lt) ((dY:Bx (w2.alloc (.cells #[V,V,V] 300)) w2.heap.size [(300,3,#[V,V,V])]).1));generalize hbe:w2.heap.size=be at*;generalize w2.alloc (.cells #[V,V,V] 300)=wx at*;refine ba ?_;refine bl 5 ?_;simp only[PL];go_wp2_with fail;refine(BO _).mono ?_;rintro e w5⟨rfl,hb⟩;have sz5:=hb.size;have HC:=Lib.hid (HC.out.below hb);clear hb;go_wp2;exact pz
  ·simp only[PL];have sz0:WB.heap.size≤WB.drew.heap.size:=Nat.le_refl _;generalize WB.drew=W0 at*;have szx:W0.heap.size<(W0.alloc (.cells #[V,V,V] 300)).heap.size:=ay;go_wp2;have HC:=Lib.hid ((HC.out.below (cb:Below W0.heap.size W0 (W0.alloc (.cells #[V,V,V] 300)))).addb (show T<W0.heap.size from HC.out.t.lt) ((dY:Bx (W0.alloc (.cells #[V,V,V] 300)) W0.heap.size [(300,3,#[V,V,V])]).1));generalize hbe:W0.heap.size=be at*;generalize W0.alloc (.cells #[V,V,V] 300)=wx at*;refine ba ?_;refine bl 2 ?_;simp only[PL];go_wp2_with fail;refine(g9 (m:=m) (l:=dI 4 0 0::(kX m S 0++l)) 3 0 0 (.inl ⟨az,rfl,rfl⟩) HC.out.t).mono ?_;rintro e w2⟨hu,hz|⟨k2,hk2,v,rfl,⟨C,rfl,hV⟩,hT1⟩⟩;·obtain⟨o,O,ho,rfl,hO⟩:=hz;exact⟨rfl,Cd.pan HC.out.u hu [] (dI 4 0 0::kX m S 0) rfl ay ⟨o,O,ho,rfl,hO⟩⟩
   obtain⟨q2,q3,q4,q5,q6,q7,q8,q9,q10,q11,a5,m5,c5,a6,m6,c6,rfl,-,-,h5,h6⟩:=fq hV;have sz2:=hu.size;replace hT1:ft R w2 T ((ej m (dI 4 0 0::(kX m S 0++l))).take k2):=hT1;have HC:=Lib.hid ((HC.out.call hu hT1).addx h5);clear hT1 hV hu h5 h6;go_wp2;refine ba ?_;refine bE [3] 5 ?_;refine pO ?_;refine pE ?_;refine bl 5 ?_;simp only[PL];go_wp2_with fail;refine(BO _).mono ?_;rintro e w5⟨rfl,hb⟩;have sz5:=hb.size;have HC:=Lib.hid (HC.out.below hb);clear hb;go_wp2;exact pz
 case rest=>
  obtain⟨b,k2,a5,a6,m5,c5,m6,c6,rfl,hk,hb,HC2⟩:=hcut;have HB0:=Lib.hid (show b<wc.heap.size from hb.out.2);have hb2:=hb.out.1;generalize hB0:wc.heap.size=B0 at HB0;replace hB0:=Lib.hid hB0;have fC:=HC2.out.b;simp only[eQ,Bo]at fC;go_wp2_with fail;go_loopg[22]S(fun g s22 wr=>∃(j k':Nat)(pre:List Oq)(ap:Option Addr)(mp cp:Nat),s22= .int .i64 j∧j+g=S∧Hid (dI 3 0 0::dI 4 0 0::kX m S 0=pre++kX m g j∧k=pre.length+k')∧Hid (Cx R T w wr ((ej m (kX m g j++l)).take k') [(E a6 m6 c6,7,m.bk),(E a5 m5 c5,5,m.bn)] [(b,300,3,#[E a6 m6 c6,E ap mp cp,E a5 m5 c5]),(w.heap.size,205,28,D),(w.heap.size+1,300,3,#[V,V,V])])∧Hid (aV wr B0 75 10 (E ap mp cp) ((m.sh.take j).flatMap (·.2))∧B0≤wr.heap.size));case atStart=>exact⟨0,k2,[dI 3 0 0,dI 4 0 0],none,0,0,rfl,aa,Lib.hid ⟨rfl,hk.out⟩,HC2,Lib.hid ⟨aV.nil _ _ _ _,by rw[←hB0.out];exact Nat.le_refl _⟩⟩
  case round=>
   obtain⟨j,k',pre,ap,mp,cp,rfl,hg,HP,HC3,HO⟩:=hrel;have fC3:=HC3.out.b;simp only[eQ,Bo]at fC3;clear fC;cases gk with
    |zero=>
     have hj:¬((j:Int)<(S:Int)):=aa;have hall:(m.sh.take j).flatMap (·.2)=ER m:=by rw[List.take_of_length_le aa];rfl
     go_wp2;refine bodyPost_ret (v:=.agg #[E a6 m6 c6,E ap mp cp,E a5 m5 c5]) (aN (t:=300) Tryz.results201 _ _ _ rfl ?_ ?_ wK ME) rfl ?_;·go_simp
     ·go_simp
     have hO:=HO.out.1;rw[hall]at hO;have hF:=HC3.out.out (g:=w.heap.size+1) (C':=#[E a6 m6 c6,E ap mp cp,E a5 m5 c5]) aa;refine Cd.fin hF.u (k':=k') (by rw[HP.out.2,HP.out.1];simp[kX]) _ rfl ⟨_,_,_,rfl,hF.x.1,?_,hF.x.2.1⟩ (by rw[show cx m (dI 3 0 0::dI 4 0 0::kX m S 0)=m from sZ S 0];exact hF.t);have hS':=(hO.same (W':=wr.setRow (w.heap.size+1) #[E a6 m6 c6,E ap mp cp,E a5 m5 c5]) (fun g hg _=>aY _ _ _ _ (by have:=(hO.base hg).1;have:=HB0.out;omega)));exact⟨hS'.sl,fun q hq=>by have:=(hO.base hq).1;have:=HB0.out;show w.heap.size≤q;omega⟩
    |succ g=>
     have hj:(j:Int)<(S:Int):=aa;have hjl:j<m.sh.length:=aa;have hjx:=List.getElem?_eq_getElem hjl;have hsj:=hsl _ (List.getElem_mem hjl);have hmem:(m.sh.take (j+1)).flatMap (·.2)=(m.sh.take j).flatMap (·.2)++m.sh[j].2:=by rw[List.take_succ_eq_append_getElem hjl,List.flatMap_append,List.flatMap_singleton]
     have hlen:((m.sh.take j).flatMap (·.2)).length≤900*j:=GM _ (fun x hx=>(hsl x (List.mem_of_mem_take hx)).2) xN;generalize m.sh[j]=sj at*;obtain⟨sn,pl⟩:=sj;simp only at hsj hmem;obtain⟨rfl,hpl⟩:=hsj;replace hmem:=Lib.hid hmem;have hRr:=Lib.hid (fun q hq=>Nat.lt_of_lt_of_le (hR q hq) HC3.out.u.size);have hCt:=Lib.hid (show ft R wr T ((ej m (fp m j++(kX m g (j+1)++l))).take k')by have h1:=HC3.out.t;rw[kX,List.append_assoc]at h1;exact h1);have hq0:(fun W:World=>Bo W b 300 3 #[E a6 m6 c6,E ap mp cp,E a5 m5 c5]) wr.drew:=HC3.out.b.1.2;go_upto_region 5 with(fail);have HF:=Lib.hid (fun(W:World)(hS:(fun W:World=>Bo W b 300 3 #[.slice a6 m6 c6,.slice ap mp cp,.slice a5 m5 c5]) W)=>hS);refine OQ 7 (fun W:World=>Bo W b 300 3 #[E a6 m6 c6,E ap mp cp,E a5 m5 c5]) [0,1,2,3] 4 ?_;iterate 4 refine pO ?_
     refine pE ?_;refine qn 4 ?_;simp only[PL];go_wp2_with fail;refine(wT (w:=wr.drew) (m:=m) (k:=k') (l:=kX m g (j+1)++l) j pl hjx hpl hRr.out (hCt.out.below (cb:Below wr.heap.size wr wr.drew))).mono ?_;rintro e w1⟨hu,hz|⟨k4,hk4,v,rfl,hO1,hT1⟩⟩;·obtain⟨o,O,ho,rfl,hO⟩:=hz;exact⟨rfl,Cd.pan (HC3.out.below (cb:Below wr.heap.size wr wr.drew)).u hu pre (kX m g (j+1)) HP.out.1 HP.out.2 ⟨o,O,ho,rfl,hO⟩⟩
     rw[gI]at hT1;have HC4:=Lib.hid ((HC3.out.below (cb:Below wr.heap.size wr wr.drew)).call hu hT1);have hq4:(fun W:World=>Bo W b 300 3 #[E a6 m6 c6,E ap mp cp,E a5 m5 c5]) w1:=HC4.out.b.1.2;have HO4:=Lib.hid ((HO.out.1.below (cb:Below wr.heap.size wr wr.drew)).upto hu (by have:=HB0.out;omega));have HS4:=Lib.hid hO1.sl;have sz4:B0≤w1.heap.size:=Nat.le_trans HO.out.2 hu.size;clear hT1 hu hO1;go_wp2;refine ba ?_;refine qn 5 ?_;simp only[PL];go_wp2_with(at_builtin;refine MO rfl (.tmp 26) (.tmp 29) rfl B0 _ _ pl rfl HO4.out _ rfl HS4.out aa sz4 ?_;intro v' w3 hown hbel);have HC5:=Lib.hid (HC4.out.low hbel (by have:=HB0.out;omega) (by have:=HB0.out;simp;omega));have hq5:(fun W:World=>Bo W b 300 3 #[E a6 m6 c6,E ap mp cp,E a5 m5 c5]) w3:=HC5.out.b.1.2;obtain⟨a7,m7,c7,rfl⟩:=(So.own (R:=R) hown).shape;rw[←hmem.out]at hown;have HO5:=Lib.hid hown;have sz5:=hbel.size;have fC5:=HC5.out.b;simp only[eQ,Bo]at fC5;clear hown hbel;refine ba ?_;refine BF [6] 1 ?_;refine pO ?_;refine pE ?_;refine Fj 7 ?_;simp only[PL];go_wp2;have HC6:=Lib.hid (HC5.out.setb (C':=#[E a6 m6 c6,E a7 m7 c7,E a5 m5 c5]) rfl aa aF);have HO6:=Lib.hid (HO5.out.same (W':=w3.setRow b #[E a6 m6 c6,E a7 m7 c7,E a5 m5 c5]) (fun g hg _=>aY _ _ _ _ (by have:=(HO5.out.base hg).1;have:=HB0.out;omega)));refine am trivial ?_;refine Fi ?_;go_wp2_with fail;go_roundg g;case measure=>omega
     case rel=>exact⟨j+1,k4,pre++fp m j,a7,m7,c7,bD,aa,Lib.hid ⟨by rw[HP.out.1,List.append_assoc];rfl,by rw[List.length_append,HP.out.2,hk4];omega⟩,HC6,Lib.hid ⟨HO6.out,pJ⟩⟩
end
end
end Go.Proofs.YtnncjbkepakgpaaGreat
