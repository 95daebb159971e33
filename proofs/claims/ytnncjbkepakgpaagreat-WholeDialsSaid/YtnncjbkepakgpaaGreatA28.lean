/- LISTS THAT MAY BE, by the document. BITS, SUBNETS, BANS, by the document. CONFS THAT MAY BE, by the document. -/
import Derived.Test.YtnncjbkepakgpaaGreatA27
namespace Go.Proofs.YtnncjbkepakgpaaGreat
open Go.RowKit Qv
set_option linter.unusedVariables false
set_option linter.unusedSimpArgs false
set_option maxRecDepth 100000
set_option maxHeartbeats 1000000
section
attribute[local go_sem high]ah
attribute[local simp high]ah
theorem zb{p:Prop}(h:PQ p:=by have hsubk:=Lib.hid (fK hel 0 4 [y.e.six,J y.e.hi,J y.e.lo,y.e.port] rfl (fun q v hv=>pc));have hel':=hel.block (W':=wr) (hK.out.block g hel.lt);have e1:=hel'.is;have e2:=hel'.of;have hgw:=hel.lt;exact pq (And.intro hsubk (And.intro hel' (And.intro e1 (And.intro e2 hgw))))):p:=h
theorem zM{p:Prop}(h:p:=by
 clear hel hsubq hz hql;go_upto_region 9 with(fail);have HF:=Lib.hid (fun(W:World)(hS:(aw wr) W)=>And.intro (HE.out W (HK1.out.trans ((hK2.out.trans (hS.out.mono hK2.out.size)).mono HK1.out.size))) (id (α:=Bx W 0 []) trivial));refine cQ (aw wr) [0,1,2,3,4,5,6,7,8,9] 2 ?_;iterate 10 refine pO ?_
 refine pE ?_;refine bl 10 ?_;simp only[PL];go_wp2_with fail;refine(HC.out z _).mono ?_;rintro e w4⟨⟨r,rfl,hr⟩,hb⟩;have k4:Below wr.heap.size wr w4:=aj hb cb cs;have hk4:=aw.mk k4;clear hb;go_wp2;refine ba ?_;refine bE [11] 0 ?_;refine pO ?_;refine pE ?_;refine cU ?_;by_cases h0:r≥0;·go_wp2;go_ret;exact⟨.inr rfl,HK1.out.trans ((hK2.out.trans (k4.mono hK2.out.size)).mono HK1.out.size)⟩
 have hr1:=Lib.hid (hr.1 aa);clear hr;go_wp2_with fail;go_roundg g2';case measure=>omega
 case rel=>exact⟨q+1,bD,aa,Lib.hid (Pu),⟨hK2.out.trans (k4.mono hK2.out.size)⟩⟩):p:=h
theorem zN{p:Prop}(h:p:=by
 have hqe:q=k:=aa;go_wp2_with fail;go_roundg gk';case measure=>omega
 case rel=>
  refine⟨k+1,bD,aa,Lib.hid ?_,Lib.hid ?_,⟨HK1.out.trans (hK2.out.mono HK1.out.size)⟩⟩;·rw[htk.out];intro x hx';rcases List.mem_append.1 hx' with h|h;exact hx.out x h;simp only[List.mem_singleton]at h;subst h;exact hok.out
  ·rw[htk.out,List.pairwise_append];refine⟨hp.out,ay,fun x hx' b hb=>?_⟩;simp only[List.mem_singleton]at hb;subst hb;have:=hq.out;rw[hqe]at this;exact this x hx'):p:=h
def LJ(y:En):Prop:=U6 y.e.hi∧U6 y.e.lo
def LN(y:Pe):Prop:=U6 y.e.hi∧U6 y.e.lo
def OI(y:Pe):Prop:=xz y∧(0≤y.a∧y.a≤1099511627776)∧(0≤y.c∧y.c≤1099511627776)∧(0≤y.f∧y.f≤1099511627776)∧(0≤y.b∧y.b≤1099511627776)∧0≤y.d∧y.d≤1048576
def Gc(x y:Ed):Int:=hJ x.six x.hi x.lo x.port y.six y.hi y.lo y.port
theorem Od(y:Pe)(hh:U6 y.e.hi)(hl:U6 y.e.lo)(w:World):Calls Tryz.prog 100 #[.agg #[y.e.six,J y.e.hi,J y.e.lo,y.e.port,y.i,y.a,y.b,y.c,y.d,y.f]] w fun r w'=>(r= .returned Y∧OI y∨r= .returned F)∧Below w.heap.size w w':=by have HR:=fun W=>Ip y.e hl W;rcases QR (Jd y.e.six y.e.hi y.e.lo y.e.port=true) (¬(y.a<0)) (¬(y.a>1099511627776)) (¬(y.c<0)) (¬(y.c>1099511627776)) (y.f≥0) (y.f≤1099511627776) (y.b≥0) (y.b≤1099511627776) (y.d≥0) (y.d≤1048576)with⟨h0,h1,h2,h3,h4,h5,h6,h7,h8,h9,h10⟩|⟨h0,h1,h2,h3,h4,h5,h6,h7,h8,h9,h10⟩|⟨h0,h1,h2,h3,h4,h5,h6,h7,h8,h9⟩|⟨h0,h1,h2,h3,h4,h5,h6,h7,h8⟩|⟨h0,h1,h2,h3,h4,h5,h6,h7⟩|⟨h0,h1,h2,h3,h4,h5,h6⟩|⟨h0,h1,h2,h3,h4,h5⟩|⟨h0,h1,h2,h3,h4⟩|⟨h0,h1,h2,h3⟩|⟨h0,h1,h2⟩|⟨h0,h1⟩|h0;all_goals(try rw[Bool.not_eq_true]at h0);rw[h0]at HR;replace HR:=Lib.hid HR;go_enter Tryz.func100,Tryz.ntmps100;go_wp2_with(go_at_call 138;refine(HR.out _).mono ?_;rintro e w1⟨rfl,hb⟩;have hk1:=aw.mk hb;have xx:=cZ hk1.out;have zz:=zs w.heap.size w1.heap.size;clear hb);go_ret;first|exact⟨.inr pF,cb⟩|exact⟨.inl ⟨pF,⟨⟨hh,hl,h0⟩,⟨aa,aa⟩,⟨aa,aa⟩,⟨h5,h6⟩,⟨h7,h8⟩,h9,h10⟩⟩,cb⟩
theorem Of(P:List (En))(hU:∀y∈P,LJ y)(hl:P.length≤1000)(v:Value)(w:World)(hs:Sl w v 7 (P.map bh)):Calls Tryz.prog 59 #[v] w fun e w'=>(e= .returned Y∧((∀y∈P,lf y)∧P.Pairwise fun a b=>Gc a.e b.e<0)∨e= .returned F)∧Below w.heap.size w w':=by
 have HS:=Lib.hid hs;have HUU:=Lib.hid hU;obtain⟨a,cp,rfl,-⟩:=id hs;rw[List.length_map];obtain⟨n,hn⟩:∃n,n=P.length:=⟨_,rfl⟩;rw[←hn]at hl⊢;replace hn:=Lib.hid hn;clear hs hU;go_enter Tryz.func59,Tryz.ntmps59;go_wp2_with fail;go_loopg[3]n(fun g s3 wr=>∃k:Nat,s3= .int .i64 k∧k+g=n∧Hid (∀y∈P.take k,lf y)∧Hid ((P.take k).Pairwise fun a b=>Gc a.e b.e<0)∧aw w wr);case atStart=>exact⟨0,rfl,aa,Lib.hid ay,Lib.hid ay,⟨Below.refl _ _⟩⟩
 case round=>
  obtain⟨k,rfl,hg,hx,hp,hK⟩:=hrel;cases gk with
   |zero=>have hk:¬((k:Int)<(n:Int)):=aa;go_wp2;go_ret;exact⟨.inl ⟨rfl,L0⟩,hK.out⟩
   |succ gk'=>
    have hk:(k:Int)<(n:Int):=aa;have hk0:0≤(k:Int):=aa;have hkl:k<P.length:=ig;have hy:=List.getElem?_eq_getElem hkl;have htk:=Lib.hid (List.take_succ_eq_append_getElem hkl);have hyU:=HUU.out _ (List.getElem_mem hkl);generalize P[k]=y at*;obtain⟨g,o,cL,e0,hel⟩:=dU HS.out (k:=k) (D:=bh y) nQ;simp only[Value.slice.injEq]at e0;obtain⟨rfl,-,rfl⟩:=e0;obtain⟨hsubk,hel',e1,e2,hgw⟩:=zb;have HR:=Lib.hid (fun W=>Oe y hyU.1 hyU.2 W);have HC:=Lib.hid (fun(z:En)W=>Dj z.e.six z.e.hi z.e.lo z.e.port y.e.six y.e.hi y.e.lo y.e.port W);simp only[bh]at e2;clear hel hel' hyU;go_wp2_with fail;refine(HR.out _).mono ?_;rintro e w1⟨h1,hb⟩;have HK1:=Lib.hid (hK.out.trans (hb.mono hK.out.size));clear hb e1 e2 hK;rcases h1 with⟨rfl,hok⟩|rfl;case inr=>go_wp2;go_ret;exact⟨.inr rfl,HK1.out⟩
    have hok:=Lib.hid hok;go_wp2_with fail;go_loopg[4]k(fun g2 s4 wr=>∃q:Nat,s4= .int .i64 q∧q+g2=k∧Hid (∀z∈P.take q,Gc z.e y.e<0)∧aw w1 wr);case atStart=>exact⟨0,rfl,aa,Lib.hid ay,⟨Below.refl _ _⟩⟩
    case round=>
     obtain⟨q,rfl,hg2,hq,hK2⟩:=hrel;cases gk with
      |zero=>have hqk:¬((q:Int)<(k:Int)):=aa;exact zN
      |succ g2'=>have hqk:(q:Int)<(k:Int):=aa;have hqn:(q:Int)<(n:Int):=aa;have hq0:0≤(q:Int):=aa;have hql:q<P.length:=ig;have hz:=List.getElem?_eq_getElem hql;have hzk:=Lib.hid (List.take_succ_eq_append_getElem hql);generalize P[q]=z at*;obtain⟨g',o',cL',e0,hel⟩:=dU HS.out (k:=q) (D:=bh z) F5;simp only[Value.slice.injEq,Option.some.injEq,Addr.mk.injEq,and_true]at e0;obtain⟨⟨rfl,rfl⟩,-,-⟩:=e0;have hsubq:=fK hel 0 4 [z.e.six,J z.e.hi,J z.e.lo,z.e.port] rfl (fun q v hv=>pc);have HE:=Lib.hid (show∀W,Below w.heap.size w W→(aR W ⟨g,o+k*7,none⟩ 4=true∧aO W ⟨g,o+k*7,none⟩ 4=(#[y.e.six,J y.e.hi,J y.e.lo,y.e.port]:AV))∧aR W ⟨g,o+q*7,none⟩ 4=true∧aO W ⟨g,o+q*7,none⟩ 4=(#[z.e.six,J z.e.hi,J z.e.lo,z.e.port]:AV)from fun W k=>⟨bm hsubk.out (k.block g hgw),bm hsubq (k.block g hgw)⟩);exact zM
theorem Oh(P:List (Pe))(hU:∀y∈P,LN y)(hl:P.length≤1000)(v:Value)(w:World)(hs:Sl w v 10 (P.map eT)):Calls Tryz.prog 60 #[v] w fun e w'=>(e= .returned Y∧((∀y∈P,OI y)∧P.Pairwise fun a b=>Gc a.e b.e<0)∨e= .returned F)∧Below w.heap.size w w':=by
 have HS:=Lib.hid hs;have HUU:=Lib.hid hU;obtain⟨a,cp,rfl,-⟩:=id hs;rw[List.length_map];obtain⟨n,hn⟩:∃n,n=P.length:=⟨_,rfl⟩;rw[←hn]at hl⊢;replace hn:=Lib.hid hn;clear hs hU;go_enter Tryz.func60,Tryz.ntmps60;go_wp2_with fail;go_loopg[3]n(fun g s3 wr=>∃k:Nat,s3= .int .i64 k∧k+g=n∧Hid (∀y∈P.take k,OI y)∧Hid ((P.take k).Pairwise fun a b=>Gc a.e b.e<0)∧aw w wr);case atStart=>exact⟨0,rfl,aa,Lib.hid ay,Lib.hid ay,⟨Below.refl _ _⟩⟩
 case round=>
  obtain⟨k,rfl,hg,hx,hp,hK⟩:=hrel;cases gk with
   |zero=>have hk:¬((k:Int)<(n:Int)):=aa;go_wp2;go_ret;exact⟨.inl ⟨rfl,L0⟩,hK.out⟩
   |succ gk'=>
    have hk:(k:Int)<(n:Int):=aa;have hk0:0≤(k:Int):=aa;have hkl:k<P.length:=ig;have hy:=List.getElem?_eq_getElem hkl;have htk:=Lib.hid (List.take_succ_eq_append_getElem hkl);have hyU:=HUU.out _ (List.getElem_mem hkl);generalize P[k]=y at*;obtain⟨g,o,cL,e0,hel⟩:=dU HS.out (k:=k) (D:=eT y) nQ;simp only[Value.slice.injEq]at e0;obtain⟨rfl,-,rfl⟩:=e0;obtain⟨hsubk,hel',e1,e2,hgw⟩:=zb;have HR:=Lib.hid (fun W=>Od y hyU.1 hyU.2 W);have HC:=Lib.hid (fun(z:Pe)W=>Dj z.e.six z.e.hi z.e.lo z.e.port y.e.six y.e.hi y.e.lo y.e.port W);simp only[eT]at e2;clear hel hel' hyU;go_wp2_with fail;refine(HR.out _).mono ?_;rintro e w1⟨h1,hb⟩;have HK1:=Lib.hid (hK.out.trans (hb.mono hK.out.size));clear hb e1 e2 hK;rcases h1 with⟨rfl,hok⟩|rfl;case inr=>go_wp2;go_ret;exact⟨.inr rfl,HK1.out⟩
    have hok:=Lib.hid hok;go_wp2_with fail;go_loopg[4]k(fun g2 s4 wr=>∃q:Nat,s4= .int .i64 q∧q+g2=k∧Hid (∀z∈P.take q,Gc z.e y.e<0)∧aw w1 wr);case atStart=>exact⟨0,rfl,aa,Lib.hid ay,⟨Below.refl _ _⟩⟩
    case round=>
     obtain⟨q,rfl,hg2,hq,hK2⟩:=hrel;cases gk with
      |zero=>have hqk:¬((q:Int)<(k:Int)):=aa;exact zN
      |succ g2'=>have hqk:(q:Int)<(k:Int):=aa;have hqn:(q:Int)<(n:Int):=aa;have hq0:0≤(q:Int):=aa;have hql:q<P.length:=ig;have hz:=List.getElem?_eq_getElem hql;have hzk:=Lib.hid (List.take_succ_eq_append_getElem hql);generalize P[q]=z at*;obtain⟨g',o',cL',e0,hel⟩:=dU HS.out (k:=q) (D:=eT z) F5;simp only[Value.slice.injEq,Option.some.injEq,Addr.mk.injEq,and_true]at e0;obtain⟨⟨rfl,rfl⟩,-,-⟩:=e0;have hsubq:=fK hel 0 4 [z.e.six,J z.e.hi,J z.e.lo,z.e.port] rfl (fun q v hv=>pc);have HE:=Lib.hid (show∀W,Below w.heap.size w W→(aR W ⟨g,o+k*10,none⟩ 4=true∧aO W ⟨g,o+k*10,none⟩ 4=(#[y.e.six,J y.e.hi,J y.e.lo,y.e.port]:AV))∧aR W ⟨g,o+q*10,none⟩ 4=true∧aO W ⟨g,o+q*10,none⟩ 4=(#[z.e.six,J z.e.hi,J z.e.lo,z.e.port]:AV)from fun W k=>⟨bm hsubk.out (k.block g hgw),bm hsubq (k.block g hgw)⟩);exact zM
end
section
attribute[local go_sem high]ah
attribute[local simp high]ah
theorem tz{p:Prop}(h:p:=by simp only[Bx,Bo]at fHB;refine(HBt.out _).mono ?_;rintro e w1⟨rfl,hb⟩;have HB1:=cD hb HB;have d1:=dE d0 hb;have sw1:=hb.size;have fHB1:=HB1.out;simp only[Bx,Bo]at fHB1;clear hb fHB;go_wp2;go_ret;exact⟨zr (HF.out),d1⟩):p:=h
theorem zO{p:Prop}(h:p:=by
 refine bE [8,9] 7 ?_;iterate 2 refine pO ?_
 refine pE ?_;refine gN 10 ?_;refine gN 11 ?_;refine gN 12 ?_;refine gN 13 ?_;refine gN 14 ?_;refine gN 15 ?_;refine bE [16] 0 ?_;refine pO ?_;refine pE ?_;refine cU ?_;go_wp2;go_ret;exact⟨.inr rfl,d0.trans (k1.mono aa)⟩):p:=h
def rl(six:Bool)(hi lo:Int)(i:Nat):Int:=if six=true∧i<64 then hi else lo
def rj(six:Bool)(i:Nat):Nat:=if six=true then 63-i%64 else 31-i
def gM(six:Bool)(hi lo:Int)(i:Nat):Int:=if(rl six hi lo i).toNat.testBit (rj six i)=true then 1 else 0
theorem MQ{x:Int}(h:U6 x)(k:Nat):wrap64 (bits .and .u64 (x/2^k) 1)=if x.toNat.testBit k=true then 1 else 0:=by
 obtain⟨n,rfl⟩:=Int.eq_ofNat_of_zero_le h.1;have e:(n:Int)/2^k=((n/2^k:Nat):Int):=by push_cast;rfl
 have h2:=Nh (2^k) h (N7 k);rw[e]at h2⊢;rw[u64_and _ _ h2.1 h2.2 az az];show wrap64 ((n/2^k&&&1:Nat):Int)=_;rw[nat_mask1,Int.toNat_natCast,Nat.testBit_eq_decide_div_mod_eq];rcases Nat.mod_two_eq_zero_or_one (n/2^k)with e|e<;>rw[e];·simp[wrap64]
 ·simp[wrap64]
theorem j0(six:Bool)(hi lo:Int)(hh:U6 hi)(hl:U6 lo)(i:Nat)(hi':(i:Int)<gq six)(w:World):Calls Tryz.prog 33 #[.agg #[six,J hi,J lo],i] w fun e w'=>e= .returned (I (gM six hi lo i))∧Below w.heap.size w w':=by
 have HBt:=Lib.hid (fun(W:World)=>Dh six hi lo W);have q0:¬((i:Int)<0):=aa;have e0:Int.tmod (i:Int) 64=((i%64:Nat):Int):=by rw[Int.tmod_eq_emod_of_nonneg aa];omega
 have e1:IntKind.i64.wrap (63-((i%64:Nat):Int))=((63-i%64:Nat):Int):=eD;cases six;·have hi2:(i:Int)<32:=hi';rw[show gq false=32 from rfl]at HBt;have q2:¬((i:Int)≥32):=aa;have e2:IntKind.i64.wrap (31-(i:Int))=((31-i:Nat):Int):=eD;have e3:IntKind.u64.wrap (((31-i:Nat):Int))=((31-i:Nat):Int):=uB;have HF:=Lib.hid (show wrap64 (bits .and .u64 (lo/2^(31-i)) 1)=gM false hi lo i from MQ hl _);clear hi' hh hl;go_enter Tryz.func33,Tryz.ntmps33;go_wp2_with fail;refine en 1 [(34,3,_)] ?_;intro WB HB d0 sWB fHB;exact tz
 ·have hi2:(i:Int)<128:=hi';rw[show gq true=128 from rfl]at HBt;have q2:¬((i:Int)≥128):=aa;have e3:IntKind.u64.wrap (((63-i%64:Nat):Int))=((63-i%64:Nat):Int):=uB;by_cases c:i<64;·have q3:(i:Int)<64:=aa;have HF:=Lib.hid (show wrap64 (bits .and .u64 (hi/2^(63-i%64)) 1)=gM true hi lo i from by rw[MQ hh];unfold gM rl rj;simp[c]);clear hi' hh hl c;go_enter Tryz.func33,Tryz.ntmps33;go_wp2_with fail;have HB:=Lib.hid (dY:Bx (w.alloc (.cells (#[Y,J hi,J lo]) 34)) w.heap.size [(34,3,#[Y,J hi,J lo])]);have d0:Below w.heap.size w (w.alloc (.cells (#[Y,J hi,J lo]) 34)):=bY;have sWB:w.heap.size+1≤(w.alloc (.cells (#[Y,J hi,J lo]) 34)).heap.size:=ay;generalize(w.alloc (.cells (#[Y,J hi,J lo]) 34))=WB at*;have fHB:=HB.out;exact tz
  ·have q3:¬((i:Int)<64):=aa;have HF:=Lib.hid (show wrap64 (bits .and .u64 (lo/2^(63-i%64)) 1)=gM true hi lo i from by rw[MQ hl];unfold gM rl rj;simp[c]);clear hi' hh hl c;go_enter Tryz.func33,Tryz.ntmps33;go_wp2_with fail;refine en 1 [(34,3,_)] ?_;intro WB HB d0 sWB fHB;exact tz
def Q3(n:Nt):Prop:=ir n.s n.h n.l=true∧0≤n.b∧n.b≤gq n.s∧∀i:Nat,n.b≤i→(i:Int)<gq n.s→gM n.s n.h n.l i=0
theorem Ok(s:Bool)(h l:Int)(i:Nat):gM s h l i=0∨gM s h l i=1:=by unfold gM;split;exact .inr rfl;exact .inl rfl
theorem N8(n:Nt)(hh:U6 n.h)(hl:U6 n.l)(w:World):Calls Tryz.prog 136 #[.agg #[n.s,J n.h,J n.l,n.b]] w fun e w'=>(e= .returned Y∧Q3 n∨e= .returned F)∧Below w.heap.size w w':=by
 have HB6:=Lib.hid (fun(W:World)=>Dh n.s n.h n.l W);have HBit:=Lib.hid (fun(i:Nat)(h:(i:Int)<gq n.s)(W:World)=>j0 n.s n.h n.l hh hl i h W);have HR:=fun(W:World)=>lO n.s n.h n.l hl W;have hbt:gq n.s=32∨gq n.s=128:=by cases n.s<;>simp[gq]
 rcases Rk (ir n.s n.h n.l=true) (¬n.b<0)with⟨h0,h1⟩|⟨h0,h1⟩|h0;case inr.inr=>
  rw[show ir n.s n.h n.l=false from by simpa using h0]at HR;replace HR:=Lib.hid HR;clear h0;go_enter Tryz.func136,Tryz.ntmps136;go_upto_region 1 with(fail);refine jg 1 [(39,4,_)] ?_;intro WB HB d0 sWB fHB;simp only[Bx,Bo]at fHB;have HF:=i8 HB;refine cQ (aw WB) [0,1] 15 ?_;iterate 2 refine pO ?_
  refine pE ?_;refine bl 2 ?_;simp only[PL];go_wp2_with fail;refine(HR.out _).mono ?_;rintro e w1⟨rfl,hb⟩;have k1:Below WB.heap.size WB w1:=aj hb cb cs;have hk1:=aw.mk k1;clear hb;go_wp2;refine ba ?_;refine bE [3,4] 12 ?_;iterate 2 refine pO ?_
  refine pE ?_;refine gN 5 ?_;refine gN 6 ?_;refine gN 7 ?_;exact zO
 all_goals rw[h0]at HR
 all_goals replace HR:=Lib.hid HR
 case inr.inl=>
  have h1':n.b<0:=aa;clear h1;go_enter Tryz.func136,Tryz.ntmps136;go_upto_region 1 with(fail);refine jg 1 [(39,4,_)] ?_;intro WB HB d0 sWB fHB;simp only[Bx,Bo]at fHB;have HF:=i8 HB;refine cQ (aw WB) [0,1] 15 ?_;iterate 2 refine pO ?_
  refine pE ?_;refine bl 2 ?_;simp only[PL];go_wp2_with fail;refine(HR.out _).mono ?_;rintro e w1⟨rfl,hb⟩;have k1:Below WB.heap.size WB w1:=aj hb cb cs;have hk1:=aw.mk k1;clear hb;go_wp2;refine ba ?_;refine bE [3,4] 12 ?_;iterate 2 refine pO ?_
  refine pE ?_;refine gY 5 ?_;refine gY 6 ?_;refine gY 7 ?_;exact zO
 by_cases h2:n.b>gq n.s;·
  replace h0:=Lib.hid h0;have h1b:decide (n.b<0)=false:=decide_eq_false h1;go_enter Tryz.func136,Tryz.ntmps136;go_upto_region 1 with(fail);refine jg 1 [(39,4,_)] ?_;intro WB HB d0 sWB fHB;simp only[Bx,Bo]at fHB;have HF:=i8 HB;refine cQ (aw WB) [0,1] 15 ?_;iterate 2 refine pO ?_
  refine pE ?_;refine bl 2 ?_;simp only[PL];go_wp2_with fail;refine(HR.out _).mono ?_;rintro e w1⟨rfl,hb⟩;have k1:Below WB.heap.size WB w1:=aj hb cb cs;have hk1:=aw.mk k1;clear hb;go_wp2;refine ba ?_;refine bE [3,4] 12 ?_;iterate 2 refine pO ?_
  refine pE ?_;refine gY 5 ?_;refine gY 6 ?_;refine gY 7 ?_;refine bE [8,9] 7 ?_;iterate 2 refine pO ?_
  refine pE ?_;refine gY 10 ?_;refine gY 11 ?_;refine gY 12 ?_;refine gY 13 ?_;refine bl 14 ?_;simp only[PL];go_wp2_with fail;refine(HB6.out _).mono ?_;rintro e w2⟨rfl,hb⟩;have k2:Below WB.heap.size WB w2:=k1.trans (hb.mono k1.size);have hk2:=aw.mk k2;clear hb;go_wp2;refine ba ?_;refine gY 15 ?_;refine bE [16] 0 ?_;refine pO ?_;refine pE ?_;refine cU ?_;go_wp2;go_ret;exact⟨.inr rfl,d0.trans (k2.mono aa)⟩
 obtain⟨b,hb⟩:∃b:Nat,n.b=(b:Int):=⟨n.b.toNat,aa⟩;obtain⟨bt,hbt'⟩:∃bt:Nat,gq n.s=(bt:Int):=⟨(gq n.s).toNat,aa⟩;rw[hb,hbt']at h2;rw[hb]at h1;rw[hbt']at HB6 HBit;have HN:=Lib.hid (And.intro h0 (And.intro hb hbt'));rw[hb];have hbt2:bt≤128:=aa;have h1b:((b:Int)<0)=False:=eq_false h1;have h2b:((bt:Int)<(b:Int))=False:=eq_false h2;clear h0 hbt hb hbt';go_enter Tryz.func136,Tryz.ntmps136;go_upto_region 1 with(fail);refine jg 1 [(39,4,_)] ?_;intro WB HB d0 sWB fHB;simp only[Bx,Bo]at fHB;have HF:=i8 HB;refine cQ (aw WB) [0,1] 15 ?_;iterate 2 refine pO ?_
 refine pE ?_;refine bl 2 ?_;simp only[PL];go_wp2_with fail;refine(HR.out _).mono ?_;rintro e w1⟨rfl,hb⟩;have k1:Below WB.heap.size WB w1:=aj hb cb cs;have hk1:=aw.mk k1;clear hb;go_wp2;refine ba ?_;refine bE [3,4] 12 ?_;iterate 2 refine pO ?_
 refine pE ?_;refine gY 5 ?_;refine gY 6 ?_;refine gY 7 ?_;refine bE [8,9] 7 ?_;iterate 2 refine pO ?_
 refine pE ?_;refine gY 10 ?_;refine gY 11 ?_;refine gY 12 ?_;refine gY 13 ?_;refine bl 14 ?_;simp only[PL];go_wp2_with fail;refine(HB6.out _).mono ?_;rintro e w2⟨rfl,hb⟩;have k2:Below WB.heap.size WB w2:=k1.trans (hb.mono k1.size);have hk2:=aw.mk k2;clear hb;go_wp2;refine ba ?_;refine gY 15 ?_;refine bE [16] 0 ?_;refine pO ?_;refine pE ?_;refine cU ?_;have HB2:=cD k2 HB;have fB2:=HB2.out;simp only[Bx,Bo]at fB2;go_wp2_with fail;go_loopg[3](bt-b)(fun g s3 wr=>∃i:Nat,s3= .int .i64 i∧b≤i∧i+g=bt∧Hid (∀q:Nat,b≤q→q<i→gM n.s n.h n.l q=0)∧aw w2 wr);case atStart=>exact⟨b,rfl,Nat.le_refl _,aa,Lib.hid (fun q h1 h2=>aa),⟨Below.refl _ _⟩⟩
 case round=>
  obtain⟨i,rfl,hi0,hi,hq,hK⟩:=hrel;have HBr:=Lib.hid (Bx.mono hK.out HB2.out (by simp;have:=k2.size;omega));have fBr:=HBr.out;simp only[Bx,Bo]at fBr;clear fB2;have s2:=k2.size;have sr:=hK.out.size;go_wp2_with fail;refine(HB6.out _).mono ?_;rintro e w3⟨rfl,hb⟩;have k3:=hK.out.trans (hb.mono hK.out.size);have HB3:=cD k3 HB2;have fB3:=HB3.out;simp only[Bx,Bo]at fB3;clear hb fBr;cases gk with
   |zero=>have hk:¬((i:Int)<(bt:Int)):=aa;go_wp2;go_ret;exact⟨.inl ⟨rfl,HN.out.1,by rw[HN.out.2.1];omega,by rw[HN.out.2.1,HN.out.2.2];omega,fun q h1 h2=>by rw[HN.out.2.1]at h1;rw[HN.out.2.2]at h2;exact hq.out q aa aa⟩,d0.trans ((k2.trans (k3.mono s2)).mono aa)⟩
   |succ gk'=>
    have hk:(i:Int)<(bt:Int):=aa;go_wp2_with fail;refine(HBit.out i hk _).mono ?_;rintro e w4⟨rfl,hb⟩;have k4:=k3.trans (hb.mono k3.size);have HB4:=cD k4 HB2;have fB4:=HB4.out;simp only[Bx,Bo]at fB4;clear hb fB3;rcases Ok n.s n.h n.l i with hr|hr;·
     rw[hr];replace hr:=Lib.hid hr;go_wp2_with fail;go_roundg gk';case measure=>omega
     case rel=>exact⟨i+1,bD,aa,aa,Lib.hid (fun q h1 h2=>by rcases Nat.lt_or_ge q i with h|h;exact hq.out q h1 h;obtain rfl:q=i:=aa;exact hr.out),⟨k4⟩⟩
    ·rw[hr];replace hr:=Lib.hid hr;go_wp2;go_ret;exact⟨.inr rfl,d0.trans ((k2.trans (k4.mono s2)).mono aa)⟩
def Fm(y:Nt×Int):Prop:=U6 y.1.h∧U6 y.1.l
def Qi(y:Nt×Int):Prop:=Q3 y.1∧0<y.2∧y.2≤1099511627776
theorem Ob(y:Nt×Int)(hh:U6 y.1.h)(hl:U6 y.1.l)(w:World):Calls Tryz.prog 96 #[.agg #[.bool y.1.s,J y.1.h,J y.1.l,I y.1.b,I y.2]] w fun e w'=>(e= .returned Y∧Qi y∨e= .returned F)∧Below w.heap.size w w':=by
 have HR:=Lib.hid (fun W=>N8 y.1 hh hl W);go_enter Tryz.func96,Tryz.ntmps96;go_wp2_with fail;refine en 1 [(143,5,_)] ?_;intro WB HB d0 sWB fHB;simp only[Bx,Bo]at fHB;refine(HR.out _).mono ?_;rintro e w1⟨h1,hb⟩;have HB1:=cD hb HB;have d1:=dE d0 hb;have fB1:=HB1.out;simp only[Bx,Bo]at fB1;clear hb fHB;rcases h1 with⟨rfl,hok⟩|rfl;·have hok:=Lib.hid hok;rcases Rk (y.2>0) (y.2≤1099511627776)with⟨h0,h1⟩|⟨h0,h1⟩|h0;all_goals go_wp2;go_ret;first|exact⟨.inr pF,d1⟩|exact⟨.inl ⟨pF,hok.out,h0,h1⟩,d1⟩
 ·go_wp2;go_ret;exact⟨.inr rfl,d1⟩
theorem rL:lj 143:=fun _ _ _ _ _ _ _=>rfl
theorem t8:lh 143 5:=l6 qJ Tryz.underlying143 rfl
theorem qq:ll 143:=fun _ _ _ _ _ _ _ _=>rfl
theorem tc:li 143 5:=mG qJ
attribute[go_sem↓]rL qq
attribute[go_sem]t8 tc
theorem Oc(P:List (Nt×Int))(hU:∀y∈P,Fm y)(hl:P.length≤1000)(v:Value)(w:World)(hs:Sl w v 5 (P.map di)):Calls Tryz.prog 58 #[v] w fun e w'=>(e= .returned Y∧((∀y∈P,Qi y)∧P.Pairwise fun a b=>Ma a.1 b.1<0)∨e= .returned F)∧Below w.heap.size w w':=by
 have HS:=Lib.hid hs;have HUU:=Lib.hid hU;obtain⟨a,cp,rfl,-⟩:=id hs;rw[List.length_map];obtain⟨n,hn⟩:∃n,n=P.length:=⟨_,rfl⟩;rw[←hn]at hl⊢;replace hn:=Lib.hid hn;clear hs hU;go_enter Tryz.func58,Tryz.ntmps58;go_wp2_with fail;go_loopg[3]n(fun g s3 wr=>∃k:Nat,s3= .int .i64 k∧k+g=n∧Hid (∀y∈P.take k,Qi y)∧Hid ((P.take k).Pairwise fun a b=>Ma a.1 b.1<0)∧aw w wr);case atStart=>exact⟨0,rfl,aa,Lib.hid ay,Lib.hid ay,⟨Below.refl _ _⟩⟩
 case round=>
  obtain⟨k,rfl,hg,hx,hp,hK⟩:=hrel;cases gk with
   |zero=>have hk:¬((k:Int)<(n:Int)):=aa;go_wp2;go_ret;exact⟨.inl ⟨rfl,by have h:=And.intro hx.out hp.out;rw[List.take_of_length_le ig]at h;first|exact h|exact⟨fun a b hh=>h.1 (a,b) hh,h.2⟩⟩,hK.out⟩
   |succ gk'=>
    have hk:(k:Int)<(n:Int):=aa;have hk0:0≤(k:Int):=aa;have hkl:k<P.length:=ig;have hy:=List.getElem?_eq_getElem hkl;have htk:=Lib.hid (List.take_succ_eq_append_getElem hkl);have hyU:=HUU.out _ (List.getElem_mem hkl);generalize P[k]=y at*;obtain⟨g,o,cL,e0,hel⟩:=dU HS.out (k:=k) (D:=di y) nQ;simp only[Value.slice.injEq]at e0;obtain⟨rfl,-,rfl⟩:=e0;have hsubk:=Lib.hid (fK hel 0 4 [.bool y.1.s,J y.1.h,J y.1.l,I y.1.b] rfl (fun q v hv=>pc));have hel':=hel.block (W':=wr) (hK.out.block g hel.lt);have e1:=hel'.is;have e2:=hel'.of;have hgw:=hel.lt;have HR:=Lib.hid (fun W=>Ob y hyU.1 hyU.2 W);have HC:=Lib.hid (fun(z:Nt×Int)W=>La z.1.s z.1.h z.1.l z.1.b y.1.s y.1.h y.1.l y.1.b W);simp only[di]at e2;clear hel hel' hyU;go_wp2_with fail;refine(HR.out _).mono ?_;rintro e w1⟨h1,hb⟩;have HK1:=Lib.hid (hK.out.trans (hb.mono hK.out.size));clear hb e1 e2 hK;rcases h1 with⟨rfl,hok⟩|rfl;case inr=>go_wp2;go_ret;exact⟨.inr rfl,HK1.out⟩
    have hok:=Lib.hid hok;go_wp2_with fail;go_loopg[4]k(fun g2 s4 wr=>∃q:Nat,s4= .int .i64 q∧q+g2=k∧Hid (∀z∈P.take q,Ma z.1 y.1<0)∧aw w1 wr);case atStart=>exact⟨0,rfl,aa,Lib.hid ay,⟨Below.refl _ _⟩⟩
    case round=>
     obtain⟨q,rfl,hg2,hq,hK2⟩:=hrel;cases gk with
      |zero=>
       have hqk:¬((q:Int)<(k:Int)):=aa;have hqe:q=k:=aa;go_wp2_with fail;go_roundg gk';case measure=>omega
       case rel=>
        refine⟨k+1,bD,aa,Lib.hid ?_,Lib.hid ?_,⟨HK1.out.trans (hK2.out.mono HK1.out.size)⟩⟩;·rw[htk.out];intro x hx';rcases List.mem_append.1 hx' with h|h;exact hx.out x h;simp only[List.mem_singleton]at h;subst h;exact hok.out
        ·rw[htk.out,List.pairwise_append];refine⟨hp.out,ay,fun x hx' b hb=>?_⟩;simp only[List.mem_singleton]at hb;subst hb;have:=hq.out;rw[hqe]at this;exact this x hx'
      |succ g2'=>
       have hqk:(q:Int)<(k:Int):=aa;have hqn:(q:Int)<(n:Int):=aa;have hq0:0≤(q:Int):=aa;have hql:q<P.length:=ig;have hz:=List.getElem?_eq_getElem hql;have hzk:=Lib.hid (List.take_succ_eq_append_getElem hql);generalize P[q]=z at*;obtain⟨g',o',cL',e0,hel⟩:=dU HS.out (k:=q) (D:=di z) F5;simp only[Value.slice.injEq,Option.some.injEq,Addr.mk.injEq,and_true]at e0;obtain⟨⟨rfl,rfl⟩,-,-⟩:=e0;have hsubq:=fK hel 0 4 [.bool z.1.s,J z.1.h,J z.1.l,I z.1.b] rfl (fun q v hv=>pc);have HE:=Lib.hid (show∀W,Below w.heap.size w W→(aR W ⟨g,o+k*5,none⟩ 4=true∧aO W ⟨g,o+k*5,none⟩ 4=(#[.bool y.1.s,J y.1.h,J y.1.l,I y.1.b]:AV))∧aR W ⟨g,o+q*5,none⟩ 4=true∧aO W ⟨g,o+q*5,none⟩ 4=(#[.bool z.1.s,J z.1.h,J z.1.l,I z.1.b]:AV)from fun W k=>⟨bm hsubk.out (k.block g hgw),bm hsubq (k.block g hgw)⟩);clear hel hsubq hz hql;go_upto_region 9 with(fail);have HF:=Lib.hid (fun(W:World)(hS:(aw wr) W)=>And.intro (HE.out W (HK1.out.trans ((hK2.out.trans (hS.out.mono hK2.out.size)).mono HK1.out.size))) (id (α:=Bx W 0 []) trivial));refine cQ (aw wr) [0,1,2,3,4,5,6,7,8,9] 2 ?_;iterate 10 refine pO ?_
       refine pE ?_;refine bl 10 ?_;simp only[PL];go_wp2_with fail;refine(HC.out z _).mono ?_;rintro e w4⟨⟨r,rfl,hr⟩,hb⟩;have k4:Below wr.heap.size wr w4:=aj hb cb cs;have hk4:=aw.mk k4;clear hb;go_wp2;refine ba ?_;refine bE [11] 0 ?_;refine pO ?_;refine pE ?_;refine cU ?_;by_cases h0:r≥0;·go_wp2;go_ret;exact⟨.inr rfl,HK1.out.trans ((hK2.out.trans (k4.mono hK2.out.size)).mono HK1.out.size)⟩
       have hr1:=Lib.hid (hr.1 aa);clear hr;go_wp2_with fail;go_roundg g2';case measure=>omega
       case rel=>exact⟨q+1,bD,aa,Lib.hid (Pu),⟨hK2.out.trans (k4.mono hK2.out.size)⟩⟩
end
section
attribute[local go_sem high]ah
attribute[local simp high]ah
structure Cv where
 mi:Int
 mo:Int
 s:Int
 mb:Int
 mbk:Int
 sec:Int
 g:Int
 p:Int
 k:Int
 t:Int
 half:Int
 lim:Int
 ban:Int
 base:Int
 cap:Int
 jit:Int
theorem RA(p0 p1 p2 p3 p4:Prop):(p0∧p1∧p2∧p3∧p4)∨(p0∧p1∧p2∧p3∧¬p4)∨(p0∧p1∧p2∧¬p3)∨(p0∧p1∧¬p2)∨(p0∧¬p1)∨(¬p0):=by
 by_cases h0:p0;case neg=>simp[h0]
 by_cases h1:p1;case neg=>simp[h1,h0]
 by_cases h2:p2;case neg=>simp[h2,h0,h1]
 by_cases h3:p3;case neg=>simp[h3,h0,h1,h2]
 by_cases h4:p4;case neg=>simp[h4,h0,h1,h2,h3]
 exact .inl ⟨h0,h1,h2,h3,h4⟩
theorem RB(p0 p1 p2 p3 p4 p5:Prop):(p0∧p1∧p2∧p3∧p4∧p5)∨(p0∧p1∧p2∧p3∧p4∧¬p5)∨(p0∧p1∧p2∧p3∧¬p4)∨(p0∧p1∧p2∧¬p3)∨(p0∧p1∧¬p2)∨(p0∧¬p1)∨(¬p0):=by
 by_cases h0:p0;case neg=>simp[h0]
 by_cases h1:p1;case neg=>simp[h1,h0]
 by_cases h2:p2;case neg=>simp[h2,h0,h1]
 by_cases h3:p3;case neg=>simp[h3,h0,h1,h2]
 by_cases h4:p4;case neg=>simp[h4,h0,h1,h2,h3]
 by_cases h5:p5;case neg=>simp[h5,h0,h1,h2,h3,h4]
 exact .inl ⟨h0,h1,h2,h3,h4,h5⟩
def ld(c:Cv):Array Value:=#[c.mi,c.mo,c.s,c.mb,c.mbk,J c.sec,c.g,c.p,c.k,c.t,c.half,c.lim,c.ban,c.base,c.cap,c.jit]
def QA(c:Cv):Prop:=(0≤c.mi∧c.mi≤65535)∧(0≤c.mo∧c.mo≤65535)∧(1≤c.s∧c.s≤8)∧(0≤c.mb∧c.mb≤1024)∧(0≤c.mbk∧c.mbk≤1024)
def QB(c:Cv):Prop:=(0≤c.g∧c.g≤64)∧(0≤c.p∧c.p≤64)∧(0≤c.k∧c.k≤64)∧(0≤c.t∧c.t≤64)
def QC(c:Cv):Prop:=(1≤c.half∧c.half≤1073741824)∧(1≤c.lim∧c.lim≤10000)∧(1≤c.ban∧c.ban≤1073741824)∧(1≤c.base∧c.base≤1073741824)∧(c.base≤c.cap∧c.cap≤1073741824)∧(0≤c.jit∧c.jit≤1073741824)
def OV(c:Cv):Prop:=QA c∧QB c∧QC c∧c.sec≤9223372036854775807
theorem A4{n a b:Int}(h:a≤n∧n≤b)(w:World):Calls Tryz.prog 95 #[n,a,b] w fun e w'=>e= .returned Y∧w'=w:=by have h1:n≥a:=h.1;have h2:=h.2;go_enter Tryz.func95,Tryz.ntmps95;go_wp2;go_ret;exact⟨rfl,rfl⟩
theorem G4{n a b:Int}(h:¬(a≤n∧n≤b))(w:World):Calls Tryz.prog 95 #[n,a,b] w fun e w'=>e= .returned F∧w'=w:=by
 by_cases h1:n≥a;·have h2:¬(n≤b):=fun h2=>h ⟨h1,h2⟩;go_enter Tryz.func95,Tryz.ntmps95;go_wp2;go_ret;exact⟨rfl,rfl⟩
 ·go_enter Tryz.func95,Tryz.ntmps95;go_wp2;go_ret;exact⟨rfl,rfl⟩
theorem Og(c:Cv)(w:World):Calls Tryz.prog 57 #[.agg (ld c)] w fun e w'=>(e= .returned Y∧OV c∨e= .returned F)∧Below w.heap.size w w':=by
 unfold ld;go_enter Tryz.func57,Tryz.ntmps57;go_upto_region 1 with(fail);refine jg 1 [(29,16,_)] ?_;intro WB HB d0 sWB fHB;simp only[Bx,Bo]at fHB;go_cut[3](fun v wx=>∃b:Bool,v= .bool b∧Hid (b=true→QA c)∧WB=wx);case first=>rcases RA (0≤c.mi∧c.mi≤65535) (0≤c.mo∧c.mo≤65535) (1≤c.s∧c.s≤8) (0≤c.mb∧c.mb≤1024) (0≤c.mbk∧c.mbk≤1024)with⟨h0,h1,h2,h3,h4⟩|⟨h0,h1,h2,h3,h4⟩|⟨h0,h1,h2,h3⟩|⟨h0,h1,h2⟩|⟨h0,h1⟩|h0;all_goals go_wp2_with(go_at_call 95;first|(refine(A4 et _).mono ?_;rintro e wq⟨rfl,rfl⟩)|(refine(G4 et _).mono ?_;rintro e wq⟨rfl,rfl⟩));go_meet;first|exact⟨_,rfl,Lib.hid (fun _=>⟨h0,h1,h2,h3,h4⟩),rfl⟩|exact⟨_,rfl,Lib.hid (fun h=>nomatch h),rfl⟩
 case rest=>
  obtain⟨b1,rfl,q1,rfl⟩:=hcut;go_upto_region 2 with(fail);go_cut[4](fun v wx=>∃b:Bool,v= .bool b∧Hid (b=true→QB c)∧WB=wx);case first=>rcases Ro (0≤c.g∧c.g≤64) (0≤c.p∧c.p≤64) (0≤c.k∧c.k≤64) (0≤c.t∧c.t≤64)with⟨h0,h1,h2,h3⟩|⟨h0,h1,h2,h3⟩|⟨h0,h1,h2⟩|⟨h0,h1⟩|h0;all_goals go_wp2_with(go_at_call 95;first|(refine(A4 et _).mono ?_;rintro e wq⟨rfl,rfl⟩)|(refine(G4 et _).mono ?_;rintro e wq⟨rfl,rfl⟩));go_meet;first|exact⟨_,rfl,Lib.hid (fun _=>⟨h0,h1,h2,h3⟩),rfl⟩|exact⟨_,rfl,Lib.hid (fun h=>nomatch h),rfl⟩
  case rest=>
   obtain⟨b2,rfl,q2,rfl⟩:=hcut;go_upto_region 3 with(fail);go_cut[5](fun v wx=>∃b:Bool,v= .bool b∧Hid (b=true→QC c)∧WB=wx);case first=>rcases RB (1≤c.half∧c.half≤1073741824) (1≤c.lim∧c.lim≤10000) (1≤c.ban∧c.ban≤1073741824) (1≤c.base∧c.base≤1073741824) (c.base≤c.cap∧c.cap≤1073741824) (0≤c.jit∧c.jit≤1073741824)with⟨h0,h1,h2,h3,h4,h5⟩|⟨h0,h1,h2,h3,h4,h5⟩|⟨h0,h1,h2,h3,h4⟩|⟨h0,h1,h2,h3⟩|⟨h0,h1,h2⟩|⟨h0,h1⟩|h0;all_goals go_wp2_with(go_at_call 95;first|(refine(A4 et _).mono ?_;rintro e wq⟨rfl,rfl⟩)|(refine(G4 et _).mono ?_;rintro e wq⟨rfl,rfl⟩));go_meet;first|exact⟨_,rfl,Lib.hid (fun _=>⟨h0,h1,h2,h3,h4,h5⟩),rfl⟩|exact⟨_,rfl,Lib.hid (fun h=>nomatch h),rfl⟩
   case rest=>
    obtain⟨b3,rfl,q3,rfl⟩:=hcut;have sec:=Classical.em (c.sec≤9223372036854775807);cases b1;case false=>go_wp2;go_ret;exact⟨.inr rfl,d0⟩
    cases b2;case false=>go_wp2;go_ret;exact⟨.inr rfl,d0⟩
    cases b3;case false=>go_wp2;go_ret;exact⟨.inr rfl,d0⟩
    rcases sec with hs|hs;·go_wp2;go_ret;exact⟨.inl ⟨pF,q1.out BZ,q2.out BZ,q3.out BZ,hs⟩,d0⟩
    ·go_wp2;go_ret;exact⟨.inr pF,d0⟩
end
end Go.Proofs.YtnncjbkepakgpaaGreat
