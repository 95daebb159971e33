/- ENDS BY WHEN THEY ARE DUE: which stands first. ENDS BY WHEN THEY ARE DUE: one sinks. ENDS BY WHEN THEY ARE DUE: made, and the first one taken. ENTRIES OF A BOOK. A BOOK WITH ANOTHER ENTRY; who is connected. -/
import Derived.Test.YtnncjbkepakgpaaGreatA24
import Derived.Test.YtnncjbkepakgpaaGreatA23
namespace Go.Proofs.YtnncjbkepakgpaaGreat
open Go.RowKit Qv
set_option linter.unusedVariables false
set_option linter.unusedSimpArgs false
set_option maxRecDepth 100000
set_option maxHeartbeats 4000000
section
attribute[local go_sem high]ah
attribute[local simp high]ah
theorem qK:(Tryz.prog.info? 355).map (·.size)=some 5:=af
theorem Fw(w:World):(isAgg 355).run Tryz.prog w= .ok true w:=by unfold isAgg;rw[Sem.run_bind,run_underlying Tryz.underlying355 w];rfl
theorem rT:lj 355:=fun _ _ _ _ _ _ _=>rfl
theorem ug:lh 355 5:=l6 qK Tryz.underlying355 rfl
theorem qB:ll 355:=fun _ _ _ _ _ _ _ _=>rfl
theorem tl:li 355 5:=mG qK
attribute[go_sem↓]rT qB
attribute[go_sem]ug tl
structure It where
 k:Int
 e:Ed deriving DecidableEq
def kV(x:It):Array Value:=#[x.k,x.e.six,J x.e.hi,J x.e.lo,x.e.port]
def P5(a b:It):Int:=qD [fh a.k b.k,hJ a.e.six a.e.hi a.e.lo a.e.port b.e.six b.e.hi b.e.lo b.e.port]
def Qn(a b:It):Bool:=decide (P5 a b<0)
theorem H6(a b:It)(w:World):Calls Tryz.prog 324 #[.agg #[a.k,a.e.six,J a.e.hi,J a.e.lo,a.e.port],.agg #[b.k,b.e.six,J b.e.hi,J b.e.lo,b.e.port]] w fun e w'=>e= .returned (I (P5 a b))∧Below w.heap.size w w':=by
 go_enter Tryz.func324,Tryz.ntmps324;go_upto_region 1 with(fail);refine jg 2 [(355,5,_),(355,5,_)] ?_;intro WB HB d0 sWB fHB;simp only[Bx,Bo]at fHB;have HF:=i8 HB;refine cQ (aw WB) [0,1,2,3,5,6,7,8] 5 ?_;iterate 8 refine pO ?_
 refine pE ?_;refine bl 4 ?_;simp only[PL];go_wp2_with(go_at_call 118;refine(jd _ _ _).mono ?_;rintro e w4q⟨rfl,rfl⟩);refine ba ?_;refine bl 9 ?_;simp only[PL];go_wp2_with fail;refine(wl a.e.six a.e.hi a.e.lo a.e.port b.e.six b.e.hi b.e.lo b.e.port _).mono ?_;rintro e w9q⟨rfl,hb⟩;have kq9:Below WB.heap.size WB w9q:=aj hb cb cs;have hk9:=aw.mk kq9;have sq9:=kq9.size;have hB9:=Bx.mono kq9 HB.out aF;simp only[Bx,Bo]at hB9;clear hb;go_wp2;refine ba ?_;refine bl 10 ?_;simp only[PL];go_wp2;refine ba ?_;refine bl 11 ?_;simp only[PL];go_wp2_with(go_at_call 116;refine(lM [fh a.k b.k,hJ a.e.six a.e.hi a.e.lo a.e.port b.e.six b.e.hi b.e.lo b.e.port] _ _ _ rfl ay dq dq).mono ?_;rintro e w9⟨rfl,rfl⟩);refine ba ?_;refine bE [12] 0 ?_;refine pO ?_;refine pE ?_;refine cU ?_;go_wp2;go_ret;exact⟨rfl,d0.trans ((cb:Below WB.heap.size WB _).mono aa)⟩
theorem FB(a b:It)(w:World):Calls Tryz.prog 307 #[.agg (kV a),.agg (kV b)] w fun e w'=>e= .returned (.bool (Qn a b))∧Below w.heap.size w w':=by simp only[kV,Qn];go_enter Tryz.func307,Tryz.ntmps307;go_wp2_with fail;refine en 2 [(355,5,_),(355,5,_)] ?_;intro WB HB d0 sWB fHB;simp only[Bx,Bo]at fHB;refine(H6 a b _).mono ?_;rintro e w1⟨rfl,hb⟩;have HB1:=cD hb HB;have d1:=dE d0 hb;have sw1:=hb.size;have fHB1:=HB1.out;simp only[Bx,Bo]at fHB1;clear hb fHB;go_wp2;go_ret;exact⟨rfl,d1⟩
end
section
attribute[local go_sem high]ah
attribute[local simp high]ah
theorem vN{p:Prop}(h:p:=by
 have hbe:MY D j=b:=hbs.out.symm.trans EB;replace hbe:=Lib.hid hbe;clear hbs;by_cases hbj:b=j;·subst hbj;have hE:dn f D b=D:=J5 f hbe.out;replace hE:=Lib.hid (hE.symm.trans hdn.out);clear hdn;go_wp2;exact bodyPost_ret (results_none rfl _ _ _) rfl ⟨rfl,by rw[←hE.out];exact HO.out.below HK.out,HU.out.trans (HK.out.mono aa)⟩
 ·have hbi:¬((b:Int)=(j:Int)):=aa;have hbb:((b:Int)==(j:Int))=false:=beq_eq_false_iff_ne.2 hbi;obtain⟨f',rfl⟩:∃q,f=q+1:=⟨f-1,aa⟩;have hjn:j<n:=aa;have hbn':b<n:=aa;obtain⟨x,hx⟩:∃x,D[j]? =some x:=⟨_,List.getElem?_eq_getElem (by rw[hDl.out];exact hjn)⟩;obtain⟨y,hy⟩:∃y,D[b]? =some y:=⟨_,List.getElem?_eq_getElem (by rw[hDl.out];exact hbn')⟩;obtain⟨g,rfl,hgB,hgr,-,q1,f1,O1⟩:=gw nm (HO.out.below HK.out) hx;obtain⟨g',e',-,-,-,q2,f2,-⟩:=gw nm (HO.out.below HK.out) hy;cases e';have hy':(D.set j y)[b]? =some y:=by rw[List.getElem?_set_ne aa];exact hy
  obtain⟨g',e',-,-,-,-,f3,O3⟩:=gw nm (O1 y) hy';cases e';have hsw:Je D j b=(D.set j y).set b x:=by unfold Je;rw[hx,hy]
  have hO9:=Lib.hid (O3 x);replace hsw:=Lib.hid hsw;clear O1 O3 hx hy hy';simp only[kV]at q1 q2 f3;have c3:(j:Int)<(n:Int):=aa;have c4:(b:Int)<(n:Int):=aa;go_wp2_with fail;have HF:=Lib.hid (fun(W:World)(hS:(ax g wr) W)=>(And.intro (hS.size) (show Bx W 0 []from trivial)));refine cQ (ax g wr) [0,1,2,3,4,5,6,8,9,10] 6 ?_;iterate 10 refine pO ?_
  refine pE ?_;refine xo 7 11 ?_ ?_;·
   simp only[PL];go_wp2;refine ba ?_ Mu;refine bl 11 ?_;simp only[PL];go_wp2;refine ba ?_ Mu;refine bE [12] 3 ?_;refine pO ?_;refine pE ?_;refine bl 13 ?_;simp only[PL];go_wp2;refine ba ?_ Mu;refine bE [14] 1 ?_;refine pO ?_;refine pE ?_;refine bl 15 ?_;simp only[PL];obtain⟨w1,hw1⟩:∃w1,w1=wr.drew.setRow g (er (aH wr g) (j*5) #[y.k,y.e.six,J y.e.hi,J y.e.lo,y.e.port]):=⟨_,rfl⟩;rw[←hw1];have f4:bU w1 g (b*5) 5=true:=by rw[hw1];exact f3
   have u1:ax g wr w1:=Po;have hO8:=Lib.hid (show aV (dK w1 g (b*5) (kV x)) B 355 5 (G g n cap) (((D.set j y).set b x).map kV)from Pp);have d1:Below (min B w.heap.size) w w1:=Pq;clear hw1 hO9 f3;go_wp2;refine ba ?_ Mu;refine cU ?_;have d7:Below (min B w.heap.size) w (dK w1 g (b*5) (kV x)):=ce d1 aa _ _;go_wp2_with fail;go_roundg f';case measure=>omega
   case rel=>exact⟨b,Je D j b,rfl,.inl hbn',aa,Lib.hid ⟨(Mf hbe.out hbj).symm.trans hdn.out,by rw[xm];exact hDl.out,by rw[hsw.out];exact hO8.out,d7⟩⟩
  ·simp only[PL];go_wp2;refine ba ?_ Mu;refine bl 7 ?_;simp only[PL];go_wp2;refine ba ?_ Mu;refine bE [12] 3 ?_;refine pO ?_;refine pE ?_;refine bl 13 ?_;simp only[PL];go_wp2;refine ba ?_ Mu;refine bE [14] 1 ?_;refine pO ?_;refine pE ?_;refine bl 15 ?_;simp only[PL];obtain⟨w1,hw1⟩:∃w1,w1=wr.drew.setRow g (er (aH wr g) (j*5) #[y.k,y.e.six,J y.e.hi,J y.e.lo,y.e.port]):=⟨_,rfl⟩;rw[←hw1];have f4:bU w1 g (b*5) 5=true:=by rw[hw1];exact f3
   have u1:ax g wr w1:=Po;have hO8:=Lib.hid (show aV (dK w1 g (b*5) (kV x)) B 355 5 (G g n cap) (((D.set j y).set b x).map kV)from Pp);have d1:Below (min B w.heap.size) w w1:=Pq;clear hw1 hO9 f3;go_wp2;refine ba ?_ Mu;refine cU ?_;have d7:Below (min B w.heap.size) w (dK w1 g (b*5) (kV x)):=ce d1 aa _ _;go_wp2_with fail;go_roundg f';case measure=>omega
   case rel=>exact⟨b,Je D j b,rfl,.inl hbn',aa,Lib.hid ⟨(Mf hbe.out hbj).symm.trans hdn.out,by rw[xm];exact hDl.out,by rw[hsw.out];exact hO8.out,d7⟩⟩):p:=h
theorem gw{α:Type}{f:α→Array Value}{n:Nat}{e:TypeId}(hf:∀x,(f x).size=n∧bB (f x)=true){W:World}{B:Nat}{a:Option Addr}{cap m:Nat}{L:List α}(h:aV W B e n (E a m cap) (L.map f)){i:Nat}{x:α}(hx:L[i]? =some x):∃g,a=some ⟨g,0,none⟩∧B≤g∧g<W.heap.size∧m=L.length∧(aR W ⟨g,i*n,none⟩ n=true∧aO W ⟨g,i*n,none⟩ n=f x)∧bU W g (i*n) n=true∧∀y,aV (dK W g (i*n) (f y)) B e n (E a m cap) ((L.set i y).map f):=by obtain⟨hi,rfl⟩:=List.getElem?_eq_some_iff.1 hx;obtain⟨g,cap',e,-,-,hB,hg,hq,-⟩:=h.setEl (i:=i) lw (C:=f L[i]) (hf _).1 (hf _).2;simp only[Value.slice.injEq,List.length_map]at e;obtain⟨rfl,rfl,rfl⟩:=e;obtain⟨g',o,cL,e,hg',h1,h2,-⟩:=eC h.sl (k:=i) (D:=f L[i]) (by simp[hi]);simp only[Value.slice.injEq,Option.some.injEq,Addr.mk.injEq,and_true]at e;obtain⟨⟨rfl,rfl⟩,-⟩:=e;rw[Nat.zero_add]at h1 h2;refine⟨g,rfl,hB,hg,rfl,⟨h1,h2⟩,hq,fun x=>?_⟩;obtain⟨g2,cap2,e2,-,-,-,-,-,h9⟩:=h.setEl (i:=i) lw (C:=f x) (hf _).1 (hf _).2;simp only[Value.slice.injEq,Option.some.injEq,Addr.mk.injEq,and_true]at e2;obtain⟨rfl,-⟩:=e2;rw[List.map_set];exact h9
theorem nm(x:It):(kV x).size=5∧bB (kV x)=true:=⟨rfl,rfl⟩
theorem bm{W W':World}{g o n:Nat}{C:Array Value}(h:aR W ⟨g,o,none⟩ n=true∧aO W ⟨g,o,none⟩ n=C)(k:W'.heap[g]? =W.heap[g]?):aR W' ⟨g,o,none⟩ n=true∧aO W' ⟨g,o,none⟩ n=C:=⟨(bS (p:=⟨g,o,none⟩) k).1.trans h.1,(bS (p:=⟨g,o,none⟩) k).2.trans h.2⟩
theorem LF{T:Nat}{a w:World}(h:ax T a w)(o:Nat)(C:Array Value):ax T a (dK w T o C):=aP h _
theorem Mu{p:Prop}(h:p:=by repeat'(first|exact ax.refl _ _|(with_reducible apply ax.drew)|(with_reducible refine aP ?_ _)|(with_reducible refine LF ?_ _ _)|assumption)):p:=h
def bs(L:List It):Nat→Nat→Nat→Nat
 |0,_,b=>b
 |f+1,k,b=>bs L f (k+1) (match L[k]?,L[b]? with|some x,some y=>if Qn x y=true then k else b|_,_=>b)
def MY(L:List It)(i:Nat):Nat:=bs L 2 (2*i+1) i
def Je(L:List It)(i k:Nat):List It:=match L[i]?,L[k]? with
 |some x,some y=>(L.set i y).set k x
 |_,_=>L
def dn:Nat→List It→Nat→List It
 |0,L,_=>L
 |f+1,L,i=>if MY L i=i then L else dn f (Je L i (MY L i)) (MY L i)
def Gm(L:List It)(i:Nat):List It:=dn L.length L i
theorem BR{L:List It}:∀(f k b:Nat),L.length≤k→bs L f k b=b
 |0,_,_,_=>rfl
 |f+1,k,b,h=>by rw[bs,List.getElem?_eq_none h];exact BR f (k+1) b aa
theorem xm(L:List It)(i k:Nat):(Je L i k).length=L.length:=by unfold Je;split<;>simp
theorem ww:∀(f:Nat)(L:List It)(i:Nat),(dn f L i).length=L.length
 |0,_,_=>rfl
 |f+1,L,i=>by rw[dn];split;rfl;rw[ww,xm]
theorem J5{L:List It}{i:Nat}(f:Nat)(h:MY L i=i):dn f L i=L:=by cases f;rfl;rw[dn,if_pos h]
theorem Mf{L:List It}{i b f:Nat}(h:MY L i=b)(hb:b≠i):dn (f+1) L i=dn f (Je L i b) b:=by rw[dn,h,if_neg hb]
theorem Lu{L:List It}{i k:Nat}{x:It}(h:x∈Je L i k):x∈L:=by
 unfold Je at h;split at h;·
  rename_i u v hu hv;rcases List.mem_or_eq_of_mem_set h with h|rfl;·
   rcases List.mem_or_eq_of_mem_set h with h|rfl;·exact h
   ·exact List.mem_of_getElem? hv
  ·exact List.mem_of_getElem? hu
 ·exact h
theorem AO:∀(f:Nat)(L:List It)(i:Nat)(x:It),x∈dn f L i→x∈L
 |0,_,_,_,h=>h
 |f+1,L,i,x,h=>by
  rw[dn]at h;split at h;·exact h
  ·exact Lu (AO f _ _ _ h)
theorem Ci(B:Nat)(a:Option Addr)(cap:Nat)(L:List It)(i:Nat)(w:World)(h:aV w B 355 5 (E a L.length cap) (L.map kV))(hl:L.length≤100000)(hi:i<L.length∨L.length=0∧i=0):Calls Tryz.prog 284 #[E a L.length cap,i] w fun e w'=>e= .returned (.tuple #[])∧aV w' B 355 5 (E a L.length cap) ((Gm L i).map kV)∧Below (min B w.heap.size) w w':=by
 have HS0:=Lib.hid h;clear h;obtain⟨n,hn⟩:∃n,n=L.length:=⟨_,rfl⟩;rw[←hn]at HS0 hl hi⊢;replace hn:=Lib.hid hn;go_enter Tryz.func284,Tryz.ntmps284;go_wp2_with fail;go_loopg[1]n(fun gk s1 wr=>∃(j:Nat)(D:List It),s1= .int .i64 (j:Int)∧(j<n∨n=0∧j=0)∧n≤j+gk∧Hid (dn gk D j=Gm L i∧D.length=n∧aV wr B 355 5 (E a n cap) (D.map kV)∧Below (min B w.heap.size) w wr));case atStart=>exact⟨i,L,rfl,hi,aa,Lib.hid ⟨by unfold Gm;rw[hn.out],hn.out.symm,HS0.out,Below.refl _ _⟩⟩
 case round=>
  obtain⟨j,D,rfl,hj,hf,HH⟩:=hrel;obtain⟨hdn,hDl,hO,hU⟩:=HH.out;have hdn:=Lib.hid hdn;have hDl:=Lib.hid hDl;have HO:=Lib.hid hO;have HU:=Lib.hid hU;clear hO hU HH HS0;have hs0:=HU.out.size;generalize wr=w0 at*;generalize gk=f at*;go_wp2_with fail;go_loopg[4,5]2(fun gi s4 s5 wr=>∃(b k:Nat),s4= .int .i64 (b:Int)∧s5= .int .i64 (k:Int)∧k+gi=2*j+3∧j≤b∧2*j+1≤k∧(b<n∨b=j)∧Hid (bs D gi k b=MY D j)∧Hid (Below w0.heap.size w0 wr));case atStart=>exact⟨j,2*j+1,rfl,ay,aa,aa,aa,.inr rfl,Lib.hid rfl,Lib.hid (Below.refl _ _)⟩
  case round=>
   obtain⟨b,k,rfl,rfl,hk,hjb,hk2,hbn,hbs,HK⟩:=hrel;cases gk with
    |zero=>have c1:¬((k:Int)≤2*(j:Int)+2):=aa;have EB:bs D 0 k b=b:=rfl;exact vN
    |succ gk'=>
     by_cases hkn:k<n;·
      have c1:(k:Int)≤2*(j:Int)+2:=aa;have c2:(k:Int)<(n:Int):=aa;have hbn':b<n:=aa;have c3:(b:Int)<(n:Int):=aa;obtain⟨x,hx⟩:∃x,D[k]? =some x:=⟨_,List.getElem?_eq_getElem (by rw[hDl.out];exact hkn)⟩;obtain⟨y,hy⟩:∃y,D[b]? =some y:=⟨_,List.getElem?_eq_getElem (by rw[hDl.out];exact hbn')⟩;have hst:=hbs.out;rw[bs,hx,hy]at hst;simp only at hst;obtain⟨g,rfl,hgB,hgr,-,q1,-,-⟩:=gw nm (HO.out.below HK.out) hx;obtain⟨g',e',-,-,-,q2,-,-⟩:=gw nm (HO.out.below HK.out) hy;cases e';have R1:=Lib.hid q1;have R2:=Lib.hid q2;have hst:=Lib.hid hst;clear hx hy hbs q1 q2;go_upto_region 4 with(fail);have HF:=Lib.hid (fun(W:World)(hS:(aw wr) W)=>And.intro ((show Bx W 0 []from trivial)) (And.intro (bm R1.out (hS.out.block g aa)) (bm R2.out (hS.out.block g aa))));refine cQ (aw wr) [0,1,2,3,4,5,6,7] 1 ?_;iterate 8 refine pO ?_
      refine pE ?_;refine bl 8 ?_;simp only[PL];go_wp2_with fail;refine(FB x y _).mono ?_;rintro e w2⟨rfl,hb⟩;have k2:Below wr.heap.size wr w2:=aj hb cb cs;have hk2:=aw.mk k2;have s2:=k2.size;clear hb;go_wp2;refine ba ?_;refine cU ?_;have K4:=Lib.hid (HK.out.trans (hk2.out.mono HK.out.size));have hst:=hst.out;generalize Qn x y=v at*;cases v with
       |false=>
        simp only[Bool.false_eq_true,if_false]at hst;replace hst:=Lib.hid hst;go_wp2_with fail;go_roundg gk';case measure=>omega
        case rel=>exact⟨b,k+1,rfl,ay,aa,aa,aa,aa,hst,K4⟩
       |true=>
        simp only[if_true]at hst;replace hst:=Lib.hid hst;go_wp2_with fail;go_roundg gk';case measure=>omega
        case rel=>exact⟨k,k+1,rfl,ay,aa,aa,aa,.inl hkn,hst,K4⟩
     ·have c1:(k:Int)≤2*(j:Int)+2:=aa;have c2:¬((k:Int)<(n:Int)):=aa;have EB:bs D (gk'+1) k b=b:=BR _ _ _ (by rw[hDl.out];omega);exact vN
end
section
attribute[local go_sem high]ah
attribute[local simp high]ah
theorem uP{n:Nat}:∀{L:List (Array Value)}(k:Nat),(∀C∈L,C.size=n)→flat (L.take k)=(flat L).take (k*n)
 |[],k,_=>jF
 |C::L,0,_=>jF
 |C::L,k+1,h=>by
  have h1:C.toList.length=n:=by simpa using h C ay
  have h2:=uP (L:=L) k fun D hD=>h D (by simp[hD]);unfold flat at h2⊢;rw[List.take_succ_cons,List.flatMap_cons,List.flatMap_cons,h2,Nat.add_mul,Nat.one_mul,Nat.add_comm (k*n) n,←h1,List.take_length_add_append]
theorem aV.take{W:World}{B:Nat}{e:TypeId}{n g m cap:Nat}{L:List (Array Value)}(h:aV W B e n (G g m cap) L)(k:Nat)(hk:k≤m):aV W B e n (G g k cap) (L.take k)∧m≤cap:=by
 obtain⟨⟨k1,k2⟩,k3⟩:=h;rcases k2 with⟨k2,_⟩|⟨g',cap',cur,e',hB,hg,hc,hm,hz,ht⟩;·cases k2
 cases e';refine⟨⟨⟨?_,.inr ⟨g,cap,cur,?_,hB,hg,?_,hm,hz,?_⟩⟩,fun C hC=>k3 C (List.mem_of_mem_take hC)⟩,hc⟩;·exact eR fun C hC=>(k3 C (List.mem_of_mem_take hC)).1
 ·rw[List.length_take];congr 1;omega
 ·rw[List.length_take];omega
 ·rw[uP k fun C hC=>(k3 C hC).1,←ht,List.take_take,List.length_take];congr 1;rw[Nat.min_eq_left hk,Nat.min_eq_left (Nat.mul_le_mul_right n hk)]
def OP:Nat→List It→List It
 |0,L=>L
 |k+1,L=>OP k (Gm L k)
def CD(L:List It):List It:=OP (L.length/2) L
def zh(x:It)(r:List It):List It:=Gm (((x::r).set 0 ((x::r).getD r.length x)).take r.length) 0
theorem CH:∀(k:Nat)(L:List It),(OP k L).length=L.length
 |0,_=>rfl
 |k+1,L=>by rw[OP,CH];exact ww _ _ _
theorem CI:∀(k:Nat)(L:List It)(x:It),x∈OP k L→x∈L
 |0,_,_,h=>h
 |k+1,L,x,h=>AO _ _ _ _ (CI k _ _ h)
theorem Ih(x:It)(r:List It):(zh x r).length=r.length:=by unfold zh;rw[Gm,ww];simp
theorem zi{x y:It}{r:List It}(h:y∈zh x r):y∈x::r:=by
 have h:=List.mem_of_mem_take (AO _ _ _ _ h);rcases List.mem_or_eq_of_mem_set h with h|rfl;·exact h
 ·rw[List.getD_eq_getElem?_getD,List.getElem?_eq_getElem ay];exact List.getElem_mem _
theorem zq{fn:Func}{p q r:Tmp}{ty t:TypeId}{n:Nat}{C:Array Value}(h:fn.results=#[.cell p ty,.tmp q,.tmp r])(tmps:Array Value)(W:World)(g:Nat)(hp:tmps.getD p undef= .pointer (some ⟨g,0,none⟩))(hr:aK W g t n=true)(hC:aH W g=C)(hi:(Tryz.prog.info? ty).map (·.size)=some n)(hagg:∀w,(isAgg ty).run Tryz.prog w= .ok true w):(results fn tmps).run Tryz.prog W= .ok (.tuple #[.agg C,tmps.getD q undef,tmps.getD r undef]) W:=by
 have hl:=ow (ty:=ty) W g hr hC hi hagg;have hp':tmps[p]?.getD undef= .pointer (some ⟨g,0,none⟩):=by simpa using hp
 simp[results,h,hp',asAddr,Sem.run_bind,hl]
theorem G1(v:Value)(L:List It)(w:World)(h:Sl w v 5 (L.map kV))(hl:L.length≤100000):Calls Tryz.prog 282 #[v] w fun e w'=>∃v',e= .returned v'∧aV w' w.heap.size 355 5 v' ((CD L).map kV)∧Below w.heap.size w w':=by
 go_enter Tryz.func282,Tryz.ntmps282;go_wp2_with fail;refine(yd v (L.map kV) w h (by simpa using hl)).mono ?_;rintro e w1⟨v',rfl,hO,hb⟩;obtain⟨a,cap,rfl,-⟩:=id hO.sl;rw[List.length_map]at hO⊢;obtain⟨n,hn⟩:∃n,n=L.length:=⟨_,rfl⟩;rw[←hn]at hO hl⊢;replace hn:=Lib.hid hn;have HO:=Lib.hid hO;have hB:=Lib.hid hb;have hs1:=hb.size;clear hO hb h;have hq:Int.tdiv (n:Int) 2=((n/2:Nat):Int):=by rw[Int.tdiv_eq_ediv_of_nonneg aa];omega
 have hn2:n/2≤n:=aa;go_wp2_with fail;go_loopg[4](n/2)(fun gk s4 wr=>∃(i:Int)(D:List It),s4= .int .i64 i∧i+1=(gk:Int)∧gk≤n/2∧Hid (OP gk D=CD L∧D.length=n∧aV wr w.heap.size 355 5 (E a n cap) (D.map kV)∧Below w.heap.size w wr));case atStart=>exact⟨_,L,rfl,aa,Nat.le_refl _,Lib.hid ⟨by unfold CD;rw[hn.out],hn.out.symm,HO.out,hB.out⟩⟩
 case round=>
  obtain⟨i,D,rfl,hi,hg2,HH⟩:=hrel;obtain⟨hmk,hDl,hO,hU⟩:=HH.out;have hmk:=Lib.hid hmk;have hDl:=Lib.hid hDl;have HO:=Lib.hid hO;have HU:=Lib.hid hU;have hsr:=hU.size;clear hO hU HH hB hq;cases gk with
   |zero=>have hi0:¬(0≤i):=aa;have hE:D=CD L:=hmk.out;replace hE:=Lib.hid hE;clear hi;go_wp2;go_ret;exact⟨_,rfl,by rw[←hE.out];exact HO.out,HU.out⟩
   |succ k=>
    obtain rfl:i=(k:Int):=aa;clear hi;have hk0:0≤(k:Int):=aa;have hkn:k<n:=aa;go_wp2_with fail;refine(by have:=Ci w.heap.size a cap D k wr (by rw[hDl.out];exact HO.out) (by rw[hDl.out];exact hl) (.inl (by rw[hDl.out];exact hkn));rw[hDl.out]at this;exact this:Calls Tryz.prog 284 #[E a n cap,k] wr fun e w'=>e= .returned (.tuple #[])∧aV w' w.heap.size 355 5 (E a n cap) ((Gm D k).map kV)∧Below (min w.heap.size wr.heap.size) wr w').mono ?_;rintro e w2⟨rfl,hO,hb⟩;rw[Nat.min_eq_left hsr]at hb;have HO2:=Lib.hid hO;have HU2:=Lib.hid (HU.out.trans hb);clear hO hb;go_wp2_with fail;go_roundg k;case measure=>omega
    case rel=>exact⟨(k:Int)-1,Gm D k,ay,aa,aa,Lib.hid ⟨hmk.out,by rw[Gm,ww];exact hDl.out,HO2.out,HU2.out⟩⟩
theorem Ij(v:Value)(w:World)(h:Sl w v 5 []):Calls Tryz.prog 256 #[v] w fun e w'=>e= .returned (.tuple #[.agg #[Z,F,U,U,Z],V,F])∧Below w.heap.size w w':=by
 obtain⟨a,cap,rfl,-⟩:=h;go_enter Tryz.func256,Tryz.ntmps256;go_wp2;refine bodyPost_ret (v:=.tuple #[.agg #[Z,F,U,U,Z],V,F]) (zq (t:=355) Tryz.results256 _ _ _ rfl ?_ ?_ qK Fw) rfl ?_;·go_simp
 ·go_simp
 exact⟨rfl,cb⟩
theorem Ii(x:It)(r:List It)(v:Value)(w:World)(h:Sl w v 5 ((x::r).map kV))(hl:r.length≤90000):Calls Tryz.prog 256 #[v] w fun e w'=>∃v',e= .returned (.tuple #[.agg (kV x),v',Y])∧aV w' w.heap.size 355 5 v' ((zh x r).map kV)∧Below w.heap.size w w':=by
 obtain⟨g0,o0,cap0,rfl,hg0,e1,e2,-⟩:=eC h (k:=0) (D:=kV x) rfl;rw[Nat.zero_mul,Nat.add_zero]at e1 e2;have hl1:(List.map kV (x::r)).length=r.length+1:=ay;rw[hl1]at h⊢;have hn0:(((r.length+1:Nat):Int)==0)=false:=beq_eq_false_iff_ne.2 aa;have hn1:¬(((r.length+1:Nat):Int)=0):=aa;have h0:=h.below ((Below.refl w.heap.size w).alloc (Nat.le_refl _) (.cells #[Z,F,U,U,Z] 355));go_enter Tryz.func256,Tryz.ntmps256;go_wp2_with fail;have HB:=Lib.hid (dY:Bx (w.alloc (.cells (#[Z,F,U,U,Z]) 355)) w.heap.size [(355,5,#[Z,F,U,U,Z])]);have d0:Below w.heap.size w (w.alloc (.cells (#[Z,F,U,U,Z]) 355)):=bY;have sWB:w.heap.size+1≤(w.alloc (.cells (#[Z,F,U,U,Z]) 355)).heap.size:=ay;generalize(w.alloc (.cells (#[Z,F,U,U,Z]) 355))=WB at*;have fHB:=HB.out;simp only[Bx,Bo]at fHB;refine(yd _ ((x::r).map kV) _ h0 aF).mono ?_;rintro e w1⟨v',rfl,hO,hb⟩;have HB1:=cD hb HB;have d1:=dE d0 hb;have s1:=hb.size;have R1:=Lib.hid (bm (W':=w1) ⟨e1,e2⟩ (d1.block g0 hg0));obtain⟨a,cap,rfl,-⟩:=id hO.sl;rw[hl1]at hO⊢;clear hb fHB HB e1 e2 h h0 hl1;obtain⟨n,hn⟩:∃n,n=r.length:=⟨_,rfl⟩;rw[←hn]at hO hl hn0 hn1⊢;obtain⟨y,hy⟩:∃y,(x::r)[n]? =some y:=⟨_,List.getElem?_eq_getElem (by simp[hn])⟩;have hyd:(x::r).getD n x=y:=by rw[List.getD_eq_getElem?_getD,hy];rfl
 obtain⟨g,rfl,hgB,hgr,-,q1,-,-⟩:=gw nm hO hy;obtain⟨g',e',-,-,-,q2,f2,O2⟩:=gw nm hO (show(x::r)[0]? =some x from rfl);cases e';have hO2:=Lib.hid ((O2 y).take n aa);have hpop:zh x r=Gm (((x::r).set 0 y).take n) 0:=by unfold zh;rw[←hn,hyd]
 have hpl:(((x::r).set 0 y).take n).length=n:=aF;replace hpop:=Lib.hid hpop;replace hpl:=Lib.hid hpl;replace hn:=Lib.hid hn;clear O2 hO hy hyd q2;rw[Nat.zero_mul]at f2;simp only[kV]at q1;have fHB1:=HB1.out;simp only[Bx,Bo]at fHB1;have hn2:(n:Int)<((n+1:Nat):Int):=aa;have hn3:(n:Int)<(n:Int)+1:=aa;have h0n:(0:Int)<(n:Int)+1:=aa;have h0m:(0:Int)<((n+1:Nat):Int):=aa;go_upto_region 6 with(fail);obtain⟨w2,hw2⟩:∃w2,w2=w1.setRow g (er (aH w1 g) 0 #[y.k,y.e.six,J y.e.hi,J y.e.lo,y.e.port]):=⟨_,rfl⟩;rw[←hw2];have b2:Below WB.heap.size w1 w2:=by rw[hw2];exact ai (Below.refl _ _) hgB _
 have HB2:=cD b2 HB1;have R2:=Lib.hid (bm (W':=w2) R1.out (b2.block g0 aa));have d2:=dE d1 b2;have hcap:=hO2.out.2;have hO3:=Lib.hid (show aV w2 WB.heap.size 355 5 (G g n cap) ((((x::r).set 0 y).take n).map kV)by rw[hw2,List.map_take];exact hO2.out.1);have s2:=d2.size;have s2':=b2.size;clear hw2 hO2 b2 R1 HB1 fHB1 d1 q1 f2;have c1:(n:Int)≤(cap:Int):=aa;have c2:0≤(n:Int):=aa;have c3:¬((n:Int)<0):=aa;go_upto_region 7 with(fail);go_wp2_with fail;refine(by have:=Ci WB.heap.size (some ⟨g,0,none⟩) cap (((x::r).set 0 y).take n) 0 w2 (by rw[hpl.out];exact hO3.out) (by rw[hpl.out];omega) (by rw[hpl.out];omega);rw[hpl.out]at this;exact this:Calls Tryz.prog 284 #[G g n cap,Z] w2 fun e w'=>e= .returned (.tuple #[])∧aV w' WB.heap.size 355 5 (G g n cap) ((Gm (((x::r).set 0 y).take n) 0).map kV)∧Below (min WB.heap.size w2.heap.size) w2 w').mono ?_;rintro e w3⟨rfl,hO,hb⟩;rw[Nat.min_eq_left aa,←hpop.out]at*;have HB3:=cD hb HB2;have R3:=Lib.hid (bm (W':=w3) R2.out (hb.block g0 aa));have d3:=dE d2 hb;have hO4:=Lib.hid hO;have s3:=hb.size;clear hb hO hO3 R2 HB2;obtain⟨e1,e2⟩:=R3.out;simp only[kV]at e2;have fHB3:=HB3.out;simp only[Bx,Bo]at fHB3;go_wp2;refine bodyPost_ret (v:=.tuple #[.agg (kV x),G g n cap,Y]) (zq (t:=355) Tryz.results256 _ _ _ rfl ?_ ?_ qK Fw) rfl ?_;·(go_simp;try rfl)
 ·(go_simp;try rfl)
 exact⟨_,rfl,(hO4.out.same fun q hq _=>by cases hq;exact aY _ _ _ _ (show¬(g=w.heap.size)by omega)).weaken aa,d3.trans (cb:Below w.heap.size w3 _)⟩
end
section
attribute[local go_sem high]ah
attribute[local simp high]ah
theorem wQ{p:Prop}(h:PQ p:=by have h1:=Lib.hid (h.below ((Below.refl w.heap.size w).alloc (Nat.le_refl _) (.cells #[y.e.six,J y.e.hi,J y.e.lo,y.e.port,y.s,y.f,y.x] 77)) h.2.2.2.1);have hl:=h.2.2.2.1;exact pq (And.intro h1 hl)):p:=h
theorem A8:(Tryz.prog.info? 77).map (·.size)=some 7:=af
theorem O0(w:World):(isAgg 77).run Tryz.prog w= .ok true w:=by unfold isAgg;rw[Sem.run_bind,run_underlying Tryz.underlying77 w];rfl
theorem tY:lj 77:=fun _ _ _ _ _ _ _=>rfl
theorem xh:lh 77 7:=l6 A8 Tryz.underlying77 rfl
theorem sc:ll 77:=fun _ _ _ _ _ _ _ _=>rfl
theorem uq:li 77 7:=mG A8
attribute[go_sem↓]tY sc
attribute[go_sem]xh uq
attribute[local go_sem]ol sJ
structure En where
 e:Ed
 s:Int
 f:Int
 x:Int deriving DecidableEq
def bh(y:En):Array Value:=#[y.e.six,J y.e.hi,J y.e.lo,y.e.port,y.s,y.f,y.x]
def lf(y:En):Prop:=U6 y.e.hi∧U6 y.e.lo∧Jd y.e.six y.e.hi y.e.lo y.e.port=true∧1≤y.s∧y.s≤3∧0≤y.f∧y.f≤1000∧0≤y.x∧y.x≤1099511627776
structure Pe where
 e:Ed
 i:Bool
 a:Int
 b:Int
 c:Int
 d:Int
 f:Int deriving DecidableEq
def eT(y:Pe):Array Value:=#[y.e.six,J y.e.hi,J y.e.lo,y.e.port,y.i,y.a,y.b,y.c,y.d,y.f]
def xz(y:Pe):Prop:=U6 y.e.hi∧U6 y.e.lo∧Jd y.e.six y.e.hi y.e.lo y.e.port=true
theorem Kf(y:En):(bh y).size=7∧bB (bh y)=true:=⟨rfl,rfl⟩
def Gq(now:Int)(y:En):Bool:=decide (y.s=1)&&decide (y.x≤now)
def OU(now:Int)(y:En):Bool:=decide (y.s=1)&&decide (now<y.x)
def Cr(y:En):En:=⟨y.e,2,y.f,y.x⟩
theorem Q0(x e:Ed):(decide (x.six=e.six)&&(decide (x.hi=e.hi)&&(decide (x.lo=e.lo)&&decide (x.port=e.port))))=decide (x=e):=by obtain⟨a,b,c,d⟩:=x;obtain⟨a',b',c',d'⟩:=e;simp[Ed.mk.injEq,Bool.decide_and]
def GN(e:Ed):List En→Nat→Int
 |[],_=>-1
 |y::r,k=>if decide (y.e=e)=true then(k:Int)else GN e r (k+1)
def wB(L:List En)(e:Ed):Int:=GN e L 0
theorem GO(e:Ed):∀(L:List En)(k:Nat),GN e L k=-1∨∃i,i<L.length∧GN e L k=((k+i:Nat):Int)∧∃y,L[i]? =some y∧y.e=e
 |[],_=>.inl rfl
 |y::r,k=>by
  rw[GN];by_cases h:y.e=e;·rw[if_pos (decide_eq_true h)];exact .inr ⟨0,ay,rfl,y,rfl,h⟩
  ·rw[if_neg rn];rcases GO e r (k+1)with h|⟨i,h1,h2,y',h3,h4⟩;·exact .inl h
   ·exact .inr ⟨i+1,by simpa using h1,by rw[h2];congr 1;omega,y',xV,h4⟩
theorem wC(L:List En)(e:Ed):wB L e=-1∨∃i,i<L.length∧wB L e=(i:Int)∧∃y,L[i]? =some y∧y.e=e:=by have:=GO e L 0;unfold wB;simpa using this
def oS(L:List En)(y:En):List En:=if 0≤wB L y.e then L.set (wB L y.e).toNat y else L
theorem Ni(y:En)(now:Int)(w:World):Calls Tryz.prog 255 #[.agg (bh y),now] w fun e w'=>e= .returned (.bool (Gq now y))∧Below w.heap.size w w':=by simp only[bh,Gq];go_enter Tryz.func255,Tryz.ntmps255;go_wp2;all_goals(go_ret;exact⟨vA (by simp[*]),bY⟩)
theorem J7(y:En)(now:Int)(b:Nat)(w:World)(h:Bo w b 3 1 #[now]):Calls Tryz.prog 254 #[.agg (bh y),H b 0] w fun r w'=>r= .returned (.bool (Gq now y))∧Below w.heap.size w w':=by have hD:=Lib.hid (fun(W:World)=>Ni y now W);simp only[bh]at hD⊢;obtain⟨h1,hl⟩:=wQ;clear h;go_enter Tryz.func254,Tryz.ntmps254;have f1:=h1.out;simp only[Bo]at f1;go_wp2_with fail;refine(hD.out _).mono ?_;rintro e w1⟨rfl,hb⟩;have d1:=(bY:Below w.heap.size w (w.alloc (.cells #[y.e.six,J y.e.hi,J y.e.lo,y.e.port,y.s,y.f,y.x] 77))).trans (hb.mono ay);clear f1;go_wp2;go_ret;exact⟨rfl,d1⟩
theorem I5(y:En)(now:Int)(b:Nat)(w:World)(h:Bo w b 3 1 #[now]):Calls Tryz.prog 258 #[.agg (bh y),H b 0] w fun r w'=>r= .returned (.bool (OU now y))∧Below w.heap.size w w':=by
 simp only[bh,OU];obtain⟨h1,hl⟩:=wQ;clear h;go_enter Tryz.func258,Tryz.ntmps258;have f1:=h1.out;simp only[Bo]at f1;by_cases c1:y.s=1;·
  have c1':(y.s==1)=true:=beq_iff_eq.2 c1;rw[show decide (y.s=1)=true from decide_eq_true c1,Bool.true_and];clear c1;by_cases c2:now<y.x;·have c2':y.x>now:=c2;rw[show decide (now<y.x)=true from decide_eq_true c2];go_wp2;go_ret;exact⟨rfl,bY⟩
  ·have c2':¬(y.x>now):=c2;rw[show decide (now<y.x)=false from decide_eq_false c2];go_wp2;go_ret;exact⟨rfl,bY⟩
 ·have c1':(y.s==1)=false:=beq_eq_false_iff_ne.2 c1;rw[show decide (y.s=1)=false from decide_eq_false c1,Bool.false_and];clear c1;go_wp2;go_ret;exact⟨rfl,bY⟩
theorem GH(y:En)(e:Ed)(b:Nat)(w:World)(h:Bo w b 36 4 #[e.six,J e.hi,J e.lo,e.port]):Calls Tryz.prog 123 #[.agg (bh y),H b 0] w fun r w'=>r= .returned (.bool (decide (y.e=e)))∧Below w.heap.size w w':=by simp only[bh];obtain⟨h1,hl⟩:=wQ;clear h;go_enter Tryz.func123,Tryz.ntmps123;have f1:=h1.out;simp only[Bo]at f1;go_wp2;go_ret;exact⟨vA (Q0 _ _),bY⟩
theorem Ks(L:List En)(e:Ed)(b:Nat)(v:Value)(w:World)(h:Bo w b 36 4 #[e.six,J e.hi,J e.lo,e.port])(hs:Sl w v 7 (L.map bh))(hl:L.length≤100000):Calls Tryz.prog 122 #[v,.func (.func 123) #[] #[H b 0]] w fun r w'=>r= .returned (I (wB L e))∧Below w.heap.size w w':=by
 have HS:=Lib.hid hs;have HB:=Lib.hid h;have hbl:=h.2.2.2.1;obtain⟨a,cap,rfl,-⟩:=id hs;rw[List.length_map];obtain⟨n,hn⟩:∃n,n=L.length:=⟨_,rfl⟩;rw[←hn]at hl⊢;replace hn:=Lib.hid hn;clear hs h;go_enter Tryz.func122,Tryz.ntmps122;go_wp2_with fail;go_loopg[8]n(fun g s8 wr=>∃k:Nat,s8= .int .i64 k∧k+g=n∧Hid (GN e (L.drop k) k=wB L e)∧Hid (Below w.heap.size w wr));case atStart=>exact⟨0,rfl,aa,Lib.hid rfl,Lib.hid (Below.refl _ _)⟩
 case round=>
  obtain⟨k,rfl,hg,he,HK⟩:=hrel;cases gk with
   |zero=>have hk:¬((k:Int)<(n:Int)):=aa;have hE:wB L e=-1:=L7;replace hE:=Lib.hid hE;clear he;go_wp2;go_ret;exact⟨zr hE.out.symm,HK.out⟩
   |succ gk'=>
    have hk:(k:Int)<(n:Int):=aa;have hk0:0≤(k:Int):=aa;have hkl:k<L.length:=ig;have hx:=List.getElem?_eq_getElem hkl;have hd:=he.out;rw[List.drop_eq_getElem_cons hkl]at hd;generalize L[k]=y at*;obtain⟨g,o,cL,e0,hgw,e1,e2,-⟩:=eC HS.out (k:=k) (D:=bh y) mR;simp only[Value.slice.injEq]at e0;obtain⟨rfl,-,rfl⟩:=e0;obtain⟨e1,e2⟩:=bm (W':=wr) ⟨e1,e2⟩ (HK.out.block g hgw);have sr:=HK.out.size;have hgr:g<wr.heap.size:=aa;simp only[GN]at hd;replace hd:=Lib.hid hd;clear hx he hkl;go_wp2_with fail;refine(GH y e b wr (HB.out.below HK.out hbl)).mono ?_;rintro r w1⟨rfl,hb⟩;have K1:=Lib.hid (HK.out.trans (hb.mono aa));clear hb e1 e2;have hd:=hd.out;by_cases c:y.e=e;·rw[show decide (y.e=e)=true from decide_eq_true c]at hd⊢;rw[if_pos rfl]at hd;replace hd:=Lib.hid hd;clear c;go_wp2;go_ret;exact⟨zr hd.out,K1.out⟩
    ·rw[show decide (y.e=e)=false from decide_eq_false c]at hd⊢;rw[if_neg ay]at hd;replace hd:=Lib.hid hd;clear c;go_wp2_with fail;go_roundg gk';case measure=>omega
     case rel=>exact⟨k+1,ay,aa,hd,K1⟩
theorem ri(L:List En)(e:Ed)(v:Value)(w:World)(hs:Sl w v 7 (L.map bh))(hl:L.length≤100000):Calls Tryz.prog 78 #[v,.agg #[e.six,J e.hi,J e.lo,e.port]] w fun r w'=>r= .returned (I (wB L e))∧Below w.heap.size w w':=by have HS:=Lib.hid (hs.below ((Below.refl w.heap.size w).alloc (Nat.le_refl _) (.cells #[e.six,J e.hi,J e.lo,e.port] 36)));clear hs;go_enter Tryz.func78,Tryz.ntmps78;go_wp2_with fail;have HB:=Lib.hid (dY:Bx (w.alloc (.cells (#[e.six,J e.hi,J e.lo,e.port]) 36)) w.heap.size [(36,4,#[e.six,J e.hi,J e.lo,e.port])]);have d0:Below w.heap.size w (w.alloc (.cells (#[e.six,J e.hi,J e.lo,e.port]) 36)):=bY;have sWB:w.heap.size+1≤(w.alloc (.cells (#[e.six,J e.hi,J e.lo,e.port]) 36)).heap.size:=ay;generalize(w.alloc (.cells (#[e.six,J e.hi,J e.lo,e.port]) 36))=WB at*;have fHB:=HB.out;simp only[Bx,Bo]at fHB;refine(Ks L e w.heap.size v WB HB.out.1 HS.out hl).mono ?_;rintro r w1⟨rfl,hb⟩;have d1:=dE d0 hb;clear hb fHB;go_wp2;go_ret;exact⟨rfl,d1⟩
theorem Nu(y:En)(w:World):Calls Tryz.prog 205 #[.agg (bh y)] w fun r w'=>r= .returned (.agg (bh (Cr y)))∧Below w.heap.size w w':=by
 simp only[bh,Cr];go_enter Tryz.func205,Tryz.ntmps205;go_wp2;refine bodyPost_ret (v:=.agg #[y.e.six,J y.e.hi,J y.e.lo,y.e.port,I 2,y.f,y.x]) (aN (t:=77) Tryz.results205 _ _ _ rfl ?_ ?_ A8 O0) rfl ?_;·go_simp
 ·go_simp
 exact⟨rfl,cb⟩
theorem uN(y:En)(h:lf y)(w:World):Calls Tryz.prog 74 #[.agg (bh y)] w fun r w'=>r= .returned Y∧Below w.heap.size w w':=by
 obtain⟨h1,h2,h3,h4,h5,h6,h7,h8,h9⟩:=h;have HE:=Lib.hid (fun(W:World)=>GD y.e.six y.e.hi y.e.lo y.e.port h2 W);rw[h3]at HE;have HFt:=Lib.hid (fun(W:World)=>Cq y.x h8 h9 W);simp only[bh];clear h1 h2 h3 h8 h9;go_enter Tryz.func74,Tryz.ntmps74;go_upto_region 2 with(fail);refine jg 1 [(77,7,_)] ?_;intro WB HB d0 sWB fHB;simp only[Bx,Bo]at fHB;have HF:=i8 HB;refine cQ (aw WB) [0,1] 23 ?_;iterate 2 refine pO ?_
 refine pE ?_;refine bl 2 ?_;simp only[PL];go_wp2_with fail;refine(HE.out _).mono ?_;rintro e w1⟨rfl,hb⟩;have k1:Below WB.heap.size WB w1:=aj hb cb cs;have hk1:=aw.mk k1;have s1:=k1.size;have hB1:=Bx.mono k1 HB.out aF;simp only[Bx,Bo]at hB1;clear hb;go_wp2;refine ba ?_;refine bE [3] 21 ?_;refine pO ?_;refine pE ?_;refine gY 4 ?_;refine bE [5,6] 18 ?_;iterate 2 refine pO ?_
 refine pE ?_;refine gY 7 ?_;refine gY 8 ?_;refine gY 9 ?_;refine bE [10,11] 13 ?_;iterate 2 refine pO ?_
 refine pE ?_;refine gY 12 ?_;refine gY 13 ?_;refine gY 14 ?_;refine bE [15,16] 8 ?_;iterate 2 refine pO ?_
 refine pE ?_;refine gY 17 ?_;refine gY 18 ?_;refine gY 19 ?_;refine gY 20 ?_;refine bl 21 ?_;simp only[PL];go_wp2_with fail;refine(HFt.out _).mono ?_;rintro e w2⟨rfl,rfl⟩;go_wp2;refine ba ?_;refine gY 22 ?_;refine bE [23,24] 0 ?_;iterate 2 refine pO ?_
 refine pE ?_;refine cU ?_;go_wp2;go_ret;exact⟨rfl,d0.trans ((cb:Below WB.heap.size WB _).mono aa)⟩
end
section
attribute[local go_sem high]ah
attribute[local simp high]ah
theorem wK:(Tryz.prog.info? 300).map (·.size)=some 3:=af
theorem ME(w:World):(isAgg 300).run Tryz.prog w= .ok true w:=by unfold isAgg;rw[Sem.run_bind,run_underlying Tryz.underlying300 w];rfl
theorem rQ:lj 300:=fun _ _ _ _ _ _ _=>rfl
theorem ud:lh 300 3:=l6 wK Tryz.underlying300 rfl
theorem qy:ll 300:=fun _ _ _ _ _ _ _ _=>rfl
theorem th:li 300 3:=mG wK
attribute[go_sem↓]rQ qy
attribute[go_sem]ud th
attribute[local go_sem]ol sJ
attribute[local go_sem↓]aZ aW
theorem IC(L:List En)(y:En):(oS L y).length=L.length:=by unfold oS;split<;>simp
theorem JH(L:List En)(y:En)(v:Value)(w:World)(hs:Sl w v 7 (L.map bh))(hl:L.length≤100000):Calls Tryz.prog 259 #[v,.agg (bh y)] w fun r w'=>∃v',r= .returned v'∧aV w' w.heap.size 77 7 v' ((oS L y).map bh)∧Below w.heap.size w w':=by
 have HS:=Lib.hid hs;have HW:=Lib.hid (fun(W:World)(h:Sl W v 7 (L.map bh))=>ri L y.e v W h hl);have h0:=hs.below ((Below.refl w.heap.size w).alloc (Nat.le_refl _) (.cells #[y.e.six,J y.e.hi,J y.e.lo,y.e.port,y.s,y.f,y.x] 77));simp only[bh]at*;change Sl _ v 7 (L.map bh)at h0;clear hs;go_enter Tryz.func259,Tryz.ntmps259;go_wp2_with fail;have HB:=Lib.hid (dY:Bx (w.alloc (.cells (#[y.e.six,J y.e.hi,J y.e.lo,y.e.port,y.s,y.f,y.x]) 77)) w.heap.size [(77,7,#[y.e.six,J y.e.hi,J y.e.lo,y.e.port,y.s,y.f,y.x])]);have d0:Below w.heap.size w (w.alloc (.cells (#[y.e.six,J y.e.hi,J y.e.lo,y.e.port,y.s,y.f,y.x]) 77)):=bY;have sWB:w.heap.size+1≤(w.alloc (.cells (#[y.e.six,J y.e.hi,J y.e.lo,y.e.port,y.s,y.f,y.x]) 77)).heap.size:=ay;generalize(w.alloc (.cells (#[y.e.six,J y.e.hi,J y.e.lo,y.e.port,y.s,y.f,y.x]) 77))=WB at*;have fHB:=HB.out;simp only[Bx,Bo]at fHB;refine(B8 _ (L.map bh) _ h0 aF).mono ?_;rintro e w1⟨v',rfl,hO,hb⟩;have HB1:=cD hb HB;have d1:=dE d0 hb;have s1:=hb.size;have HO:=Lib.hid (hO.weaken (B':=w.heap.size) aa);have fB1:=HB1.out;simp only[Bx,Bo]at fB1;clear hb fHB HB hO h0;go_wp2_with fail;refine(HW.out _ (HS.out.below d1)).mono ?_;rintro e w2⟨rfl,hb⟩;have HB2:=cD hb HB1;have d2:=dE d1 hb;have s2:=hb.size;replace HO:=Lib.hid (HO.out.below hb);have fB2:=HB2.out;simp only[Bx,Bo]at fB2;clear hb fB1 HB1 d1;have hset:oS L y=if 0≤wB L y.e then L.set (wB L y.e).toNat y else L:=rfl;rcases wC L y.e with hf|⟨i,hi,hf,z,hz,-⟩;·rw[hf]at hset⊢;rw[if_neg aa]at hset;replace hset:=Lib.hid hset;clear hf;go_wp2;go_ret;exact⟨_,rfl,by rw[hset.out];exact HO.out,d2⟩
 ·rw[hf]at hset⊢;rw[if_pos aa,Int.toNat_natCast]at hset;obtain⟨a,cap,rfl,-⟩:=id HO.out.sl;obtain⟨g,rfl,hgB,hgr,-,q1,f1,O1⟩:=gw Kf HO.out hz;have hO9:=Lib.hid (O1 y);rw[List.length_map];obtain⟨n,hn⟩:∃n,n=L.length:=⟨_,rfl⟩;rw[←hn]at hi⊢;have hO9:=Lib.hid (by have:=hO9.out;rw[List.length_map,←hn]at this;exact this:aV (dK w2 g (i*7) (bh y)) w.heap.size 77 7 (G g n cap) ((L.set i y).map bh));replace hset:=Lib.hid hset;have c1:(i:Int)<(n:Int):=aa;have c0:0≤(i:Int):=aa;have d3:Below w.heap.size w (dK w2 g (i*7) #[y.e.six,J y.e.hi,J y.e.lo,y.e.port,y.s,y.f,y.x]):=ce d2 hgB _ _;clear hf hn HO q1 O1 hz;go_wp2;go_ret;exact⟨_,rfl,by rw[hset.out];exact hO9.out,d3⟩
def LR(e:Ed)(L:List Pe):Bool:=L.any fun y=>decide (y.e=e)
theorem JZ(L:List Pe)(e:Ed)(ak ab:Option Addr)(mk ck mb cb':Nat)(v:Value)(w:World)(hs:Sl w v 10 (L.map eT))(hl:L.length≤100000):Calls Tryz.prog 285 #[.agg #[E ak mk ck,v,E ab mb cb'],.agg #[e.six,J e.hi,J e.lo,e.port]] w fun r w'=>r= .returned (.bool (LR e L))∧Below w.heap.size w w':=by
 have HS:=Lib.hid hs;obtain⟨ap,cp,rfl,-⟩:=id hs;rw[List.length_map];obtain⟨n,hn⟩:∃n,n=L.length:=⟨_,rfl⟩;rw[←hn]at hl⊢;replace hn:=Lib.hid hn;clear hs;go_enter Tryz.func285,Tryz.ntmps285;go_wp2_with fail;refine jg 2 [(300,3,_),(36,4,_)] ?_;intro WB HB d0 sWB fHB;simp only[Bx,Bo]at fHB;go_loopg[10]n(fun g s10 wr=>∃k:Nat,s10= .int .i64 k∧k+g=n∧Hid (LR e (L.drop k)=LR e L)∧Hid (Below WB.heap.size WB wr));case atStart=>exact⟨0,rfl,aa,Lib.hid rfl,Lib.hid (Below.refl _ _)⟩
 case round=>
  obtain⟨k,rfl,hg,he,HK⟩:=hrel;have HBr:=Lib.hid (Bx.mono HK.out HB.out aF);have fBr:=HBr.out;simp only[Bx,Bo]at fBr;have sr:=HK.out.size;clear fHB;cases gk with
   |zero=>have hk:¬((k:Int)<(n:Int)):=aa;have hE:LR e L=false:=L7;replace hE:=Lib.hid hE;clear he;go_wp2;go_ret;exact⟨vA hE.out.symm,d0.trans (HK.out.mono aa)⟩
   |succ gk'=>
    have hk:(k:Int)<(n:Int):=aa;have hk0:0≤(k:Int):=aa;have hkl:k<L.length:=ig;have hx:=List.getElem?_eq_getElem hkl;have hd:=he.out;rw[List.drop_eq_getElem_cons hkl]at hd;generalize L[k]=y at*;obtain⟨g,o,cL,e0,hgw,e1,e2,-⟩:=eC HS.out (k:=k) (D:=eT y) mR;simp only[Value.slice.injEq]at e0;obtain⟨rfl,-,rfl⟩:=e0;obtain⟨e1,e2⟩:=bm (W':=wr) ⟨e1,e2⟩ ((HK.out.block g aa).trans (d0.block g hgw));have hgr:g<wr.heap.size:=aa;have hd:(decide (y.e=e)||LR e (L.drop (k+1)))=LR e L:=by rw[←hd];rfl
    replace hd:=Lib.hid hd;simp only[eT]at e2;clear hx he hkl;by_cases c:y.e=e;·have ec:=Q0 y.e e;rw[show decide (y.e=e)=true from decide_eq_true c]at ec hd;clear c;go_wp2;go_ret;exact⟨vA (by have:=hd.out;rw[Bool.true_or]at this;exact this),(d0.trans (HK.out.mono aa)).trans cb⟩
    ·have ec:=Q0 y.e e;rw[show decide (y.e=e)=false from decide_eq_false c]at ec hd;rw[Bool.false_or]at hd;replace hd:=Lib.hid hd.out;clear c;go_wp2_with fail;go_roundg gk';case measure=>omega
     case rel=>exact⟨k+1,ay,aa,hd,Lib.hid (HK.out.trans cb)⟩
end
end Go.Proofs.YtnncjbkepakgpaaGreat
