/- THE ENTRIES THAT MEET SOMETHING, by when they are due. SUBNETS IN A LIST: is one among them; each once. SUBNETS IN A LIST, each once. SUBNETS SORTED: the library's contract, laid. SUBNETS SORTED: as many, the same ones. -/
import Derived.Test.YtnncjbkepakgpaaGreatA25
import Derived.Shelf.SlLaysF0
import Derived.Shelf.SlSortCmp.WholeK
namespace Go.Proofs.YtnncjbkepakgpaaGreat
open Go.RowKit Qv
set_option linter.unusedVariables false
set_option linter.unusedSimpArgs false
set_option maxRecDepth 100000
set_option maxHeartbeats 4000000
section
attribute[local go_sem high]ah
attribute[local simp high]ah
def Qr(y:En):It:=⟨y.x,y.e⟩
def ku(P:En→Bool)(L:List En):List It:=(L.filter P).map Qr
theorem sK(P:En→Bool)(L:List En):(ku P L).length≤L.length:=by unfold ku;rw[List.length_map];exact List.length_filter_le _ _
theorem Es(P:En→Bool)(y:En)(L:List En):ku P (y::L)=(if P y=true then[Qr y]else[])++ku P L:=by unfold ku;rw[List.filter_cons];split<;>rfl
theorem yD(P:En→Bool)(Fx b:Nat)(now:Int)(HP:∀(y:En)(W:World),Bo W b 3 1 #[now]→Calls Tryz.prog Fx #[.agg (bh y),H b 0] W fun r w'=>r= .returned (.bool (P y))∧Below W.heap.size W w')(hF:∀args w,(callFunc Fx args).run Tryz.prog w= .ok (.enter Fx args) w)(L:List En)(hL:∀y∈L,lf y)(hl:L.length≤90000)(ap ab:Option Addr)(mp cp mb cb':Nat)(v:Value)(w:World)(hs:Sl w v 7 (L.map bh))(hb0:Bo w b 3 1 #[now]):Calls Tryz.prog 253 #[.agg #[v,E ap mp cp,E ab mb cb'],.func (.func Fx) #[] #[H b 0]] w fun r w'=>∃v',r= .returned v'∧aV w' w.heap.size 355 5 v' ((CD (ku P L)).map kV)∧Below w.heap.size w w':=by
 have HS:=Lib.hid hs;have HL:=Lib.hid hL;have HP:=Lib.hid HP;have Hb0:=Lib.hid hb0;have hbl:=hb0.2.2.2.1;obtain⟨ak,ck,rfl,-⟩:=id hs;rw[List.length_map];obtain⟨n,hn⟩:∃n,n=L.length:=⟨_,rfl⟩;rw[←hn]at hl⊢;replace hn:=Lib.hid hn;clear hs hL hb0;go_enter Tryz.func253,Tryz.ntmps253;go_wp2_with fail;refine jg 1 [(300,3,_)] ?_;intro WB HB d0 sWB fHB;simp only[Bx,Bo]at fHB;go_loopg[5,11]n(fun g s5 s11 wr=>∃(k:Nat)(acc:List It),s11= .int .i64 k∧k+g=n∧Hid (acc++ku P (L.drop k)=ku P L)∧Hid (aV wr WB.heap.size 355 5 s5 (acc.map kV))∧Hid (Below WB.heap.size WB wr));case atStart=>exact⟨0,[],rfl,aa,Lib.hid rfl,Lib.hid (aV.nil _ _ _ _),Lib.hid (Below.refl _ _)⟩
 case round=>
  obtain⟨k,acc,rfl,hg,he,HO,HK⟩:=hrel;have HBr:=Lib.hid (Bx.mono HK.out HB.out aF);have fBr:=HBr.out;simp only[Bx,Bo]at fBr;have sr:=HK.out.size;have hal:acc.length≤n:=by have h1:=congrArg List.length he.out;rw[List.length_append]at h1;have h2:=sK P L;rw[hn.out];omega
  clear fHB;cases gk with
   |zero=>
    have hk:¬((k:Int)<(n:Int)):=aa;have hE:acc=ku P L:=by rw[←he.out,List.drop_eq_nil_of_le ig];simp[ku]
    replace hE:=Lib.hid hE;clear he;go_wp2_with fail;refine(G1 _ acc wr HO.out.sl aa).mono ?_;rintro e w1⟨v',rfl,hO,hb⟩;have d1:=(d0.trans (HK.out.mono aa)).trans (hb.mono aa);have hO:=Lib.hid (hO.weaken (B':=w.heap.size) aa);clear hb;go_wp2;go_ret;exact⟨_,rfl,by rw[←hE.out];exact hO.out,d1⟩
   |succ gk'=>
    have hk:(k:Int)<(n:Int):=aa;have hk0:0≤(k:Int):=aa;have hkl:k<L.length:=ig;have hx:=List.getElem?_eq_getElem hkl;have hd:=he.out;have hy:=HL.out _ (List.getElem_mem hkl);rw[List.drop_eq_getElem_cons hkl]at hd;generalize L[k]=y at*;obtain⟨g,o,cL,e0,hgw,e1,e2,-⟩:=eC HS.out (k:=k) (D:=bh y) mR;simp only[Value.slice.injEq]at e0;obtain⟨rfl,-,rfl⟩:=e0;obtain⟨e1,e2⟩:=bm (W':=wr) ⟨e1,e2⟩ ((HK.out.block g aa).trans (d0.block g hgw));have hgr:g<wr.heap.size:=aa;rw[Es,←List.append_assoc]at hd;replace hd:=Lib.hid hd;have hR:=Lib.hid (fun(W:World)=>uN y hy W);have hPy:=Lib.hid (fun(W:World)(h:Bo W b 3 1 #[.int .i64 now])=>HP.out y W h);simp only[bh]at e2 hR hPy;clear hx he hkl hy;go_wp2_with fail;refine(hR.out _).mono ?_;rintro r w1⟨rfl,hb⟩;have HB1:=Lib.hid (Bx.mono (g:=wr.heap.size) (L:=[(77,7,#[y.e.six,J y.e.hi,J y.e.lo,y.e.port,y.s,y.f,y.x])]) hb dY ay);have b1:Below wr.heap.size wr w1:=((Below.refl wr.heap.size wr).alloc (Nat.le_refl _) _).trans (hb.mono ay);have s1:=b1.size;have sB1:wr.heap.size<w1.heap.size:=HB1.out.1.2.2.2.1;have d1:Below w.heap.size w w1:=(d0.trans (HK.out.mono aa)).trans (b1.mono aa);have fB1:=HB1.out;simp only[Bx,Bo]at fB1;clear hb e1 e2;go_wp2_with fail;refine(hPy.out _ (Hb0.out.below d1 hbl)).mono ?_;rintro r w2⟨rfl,hb⟩;have HB2:=cD hb HB1;have b2:=b1.trans (hb.mono s1);have s2:=b2.size;have sB2:wr.heap.size<w2.heap.size:=HB2.out.1.2.2.2.1;have d2:=d1.trans (hb.mono d1.size);have fB2:=HB2.out;simp only[Bx,Bo]at fB2;have hO2:=Lib.hid (HO.out.below b2);have K2:=Lib.hid (HK.out.trans (b2.mono sr));clear hb fB1 HO b1 d1;cases hp:P y;·
     rw[hp]at hd;clear hp;go_wp2_with fail;go_roundg gk';case measure=>omega
     case rel=>exact⟨k+1,acc,ay,aa,Lib.hid (by have:=hd.out;simpa using this),hO2,K2⟩
    ·rw[hp]at hd;clear hp;go_wp2_with(at_builtin;refine FH rfl (.tmp 22) (.tmp 28) rfl _ _ (acc.map kV) [#[y.x,y.e.six,J y.e.hi,J y.e.lo,y.e.port]] rfl (hO2.out.below ((Below.refl w2.heap.size w2).alloc (Nat.le_refl _) (.cells #[y.x,y.e.six,J y.e.hi,J y.e.lo,y.e.port] 355))) _ _ _ rfl (cY w2 #[y.x,y.e.six,J y.e.hi,J y.e.lo,y.e.port] 355 5 _ rfl rfl rfl) aF ix ?_;intro v7 w7 hown hbel hnil;have k7:Below WB.heap.size w2 w7:=((Below.refl WB.heap.size w2).alloc aa _).trans hbel;have HO7:=Lib.hid (show aV w7 WB.heap.size 355 5 v7 ((acc++[Qr y]).map kV)by rw[List.map_append];exact hown);clear hown hbel hnil);go_roundg gk';case measure=>omega
     case rel=>exact⟨k+1,acc++[Qr y],ay,aa,Lib.hid (by have:=hd.out;simpa using this),HO7,Lib.hid (K2.out.trans (k7.mono aa))⟩
end
section
attribute[local go_sem high]ah
attribute[local simp high]ah
theorem Ka:(Tryz.prog.info? 39).map (fun i=>(i.zero,i.size,i.bytes))=some (some (.agg #[F,U,U,Z]),4,32):=af
theorem LV{ops:Array Oper}{rest:List Oper}{o:Oper}{a:Act}{w:World}{Q:Exit→Act→World→Prop}(hgd:o.guard=none)(s x:Operand)(ho:o.op= .call {callee:=.builtin .append,args:=#[s,x],argTypes:=#[396,396]})(B:Nat)(v:Value)(L M:List (Array Value))(hs:a.eval s=v)(hown:aV w B 39 4 v L)(ad:Addr)(m k:Nat)(hx:a.eval x= .slice (some ad) m k)(hM:Sl w (E (some ad) m k) 4 M)(hlen:L.length+M.length≤200000)(hbase:B≤w.heap.size)(h:∀v' w',aV w' B 39 4 v' (L++M)→Below B w w'→(v'= .slice none 0 0↔v= .slice none 0 0∧M=[])→wpList Tryz.prog ops Q rest (a.put o.dst v') w'):wpList Tryz.prog ops Q (o::rest) a w:=by obtain⟨i0,hi,hz0,hz1,hz2⟩:=info_parts Ka;exact eK hgd s x 396 ho B 39 i0 (.agg #[F,U,U,Z]) 4 32 Tryz.underlying396 hi hz0 hz1 hz2 rfl az v L M hs hown ad m k hx hM aa aa hbase h
attribute[local go_sem]ol sJ
def mQ(x:Nt):Array Value:=#[x.s,J x.h,J x.l,x.b]
theorem nw(x:Nt):(mQ x).size=4∧bB (mQ x)=true:=⟨rfl,rfl⟩
theorem ON(x e:Nt):(decide (x.s=e.s)&&(decide (x.h=e.h)&&(decide (x.l=e.l)&&decide (x.b=e.b))))=decide (x=e):=by obtain⟨a,b,c,d⟩:=x;obtain⟨a',b',c',d'⟩:=e;simp[Nt.mk.injEq,Bool.decide_and]
theorem KP(L:List Nt)(x:Nt)(v:Value)(w:World)(hs:Sl w v 4 (L.map mQ))(hl:L.length≤100000):Calls Tryz.prog 325 #[v,.agg #[x.s,J x.h,J x.l,x.b]] w fun e w'=>(∃r:Int,e= .returned r∧(0≤r↔x∈L))∧Below w.heap.size w w':=by
 have HS:=Lib.hid hs;obtain⟨a,cap,rfl,-⟩:=id hs;rw[List.length_map];obtain⟨n,hn⟩:∃n,n=L.length:=⟨_,rfl⟩;rw[←hn]at hl⊢;replace hn:=Lib.hid hn;clear hs;go_enter Tryz.func325,Tryz.ntmps325;go_wp2_with fail;refine jg 1 [(39,4,_)] ?_;intro WB HB d0 sWB fHB;simp only[Bx,Bo]at fHB;go_loopg[8]n(fun g s8 wr=>∃k:Nat,s8= .int .i64 k∧k+g=n∧Hid (x∈L.drop k↔x∈L)∧Hid (Below WB.heap.size WB wr));case atStart=>exact⟨0,rfl,aa,Lib.hid Iff.rfl,Lib.hid (Below.refl _ _)⟩
 case round=>
  obtain⟨k,rfl,hg,he,HK⟩:=hrel;have HBr:=Lib.hid (Bx.mono HK.out HB.out aF);have fBr:=HBr.out;simp only[Bx,Bo]at fBr;have sr:=HK.out.size;clear fHB;cases gk with
   |zero=>
    have hk:¬((k:Int)<(n:Int)):=aa;have hE:¬x∈L:=by rw[←he.out,List.drop_eq_nil_of_le ig];simp
    replace hE:=Lib.hid hE;clear he;go_wp2;go_ret;exact⟨⟨-1,rfl,by simp[hE.out]⟩,d0.trans (HK.out.mono aa)⟩
   |succ gk'=>
    have hk:(k:Int)<(n:Int):=aa;have hk0:0≤(k:Int):=aa;have hkl:k<L.length:=ig;have hx:=List.getElem?_eq_getElem hkl;have hd:=he.out;have hm:=List.getElem_mem hkl;rw[List.drop_eq_getElem_cons hkl,List.mem_cons]at hd;generalize L[k]=y at*;obtain⟨g,o,cL,e0,hgw,e1,e2,-⟩:=eC HS.out (k:=k) (D:=mQ y) mR;simp only[Value.slice.injEq]at e0;obtain⟨rfl,-,rfl⟩:=e0;have R1:=Lib.hid (bm (W':=wr) ⟨e1,e2⟩ ((HK.out.block g aa).trans (d0.block g hgw)));have hgr:g<wr.heap.size:=aa;simp only[mQ]at R1;by_cases c:x=y;·
     subst c;have hm:=Lib.hid hm;have ec:=ON x x;rw[decide_eq_true rfl]at ec;clear hd he hx e1 e2 hkl;go_upto_region 4 with(fail);have HF:=Lib.hid (fun(W:World)(hS:(aw wr) W)=>And.intro (Bx.mono hS.out HBr.out aF) (bm R1.out (hS.out.block g aa)));refine cQ (aw wr) [0,1,2,3,4,5] 0 ?_;iterate 6 refine pO ?_
     refine pE ?_;refine cU ?_;go_wp2;go_ret;exact⟨⟨(k:Int),rfl,by simp[hm.out]⟩,d0.trans ((HK.out.trans ((cb:Below wr.heap.size wr _).mono aa)).mono aa)⟩
    ·have ec:=ON x y;rw[decide_eq_false c]at ec;have hd:=Lib.hid (show x∈L.drop (k+1)↔x∈L from⟨fun h=>hd.1 (.inr h),fun h=>(hd.2 h).resolve_left c⟩);clear c hm he hx e1 e2 hkl;go_upto_region 4 with(fail);have HF:=Lib.hid (fun(W:World)(hS:(aw wr) W)=>And.intro (Bx.mono hS.out HBr.out aF) (bm R1.out (hS.out.block g aa)));refine cQ (aw wr) [0,1,2,3,4,5] 0 ?_;iterate 6 refine pO ?_
     refine pE ?_;refine cU ?_;go_wp2_with fail;go_roundg gk';case measure=>omega
     case rel=>exact⟨k+1,ay,aa,hd,Lib.hid (HK.out.trans ((cb:Below wr.heap.size wr _).mono aa))⟩
theorem KO(L:List Nt)(x:Nt)(v:Value)(w:World)(hs:Sl w v 4 (L.map mQ))(hl:L.length≤100000):Calls Tryz.prog 308 #[v,.agg #[x.s,J x.h,J x.l,x.b]] w fun e w'=>e= .returned (.bool (decide (x∈L)))∧Below w.heap.size w w':=by
 have HS:=Lib.hid (hs.below ((Below.refl w.heap.size w).alloc (Nat.le_refl _) (.cells #[x.s,J x.h,J x.l,x.b] 39)));have HI:=Lib.hid (fun(W:World)(h:Sl W v 4 (L.map mQ))=>KP L x v W h hl);clear hs;go_enter Tryz.func308,Tryz.ntmps308;go_wp2_with fail;have HB:=Lib.hid (dY:Bx (w.alloc (.cells (#[x.s,J x.h,J x.l,x.b]) 39)) w.heap.size [(39,4,#[x.s,J x.h,J x.l,x.b])]);have d0:Below w.heap.size w (w.alloc (.cells (#[x.s,J x.h,J x.l,x.b]) 39)):=bY;have sWB:w.heap.size+1≤(w.alloc (.cells (#[x.s,J x.h,J x.l,x.b]) 39)).heap.size:=ay;generalize(w.alloc (.cells (#[x.s,J x.h,J x.l,x.b]) 39))=WB at*;have fHB:=HB.out;simp only[Bx,Bo]at fHB;refine(HI.out _ HS.out).mono ?_;rintro e w1⟨⟨r,rfl,hr⟩,hb⟩;have d1:=dE d0 hb;clear hb fHB;by_cases c:0≤r;·have hm:=Lib.hid (decide_eq_true (hr.1 c));clear hr;go_wp2;go_ret;exact⟨vA hm.out.symm,d1⟩
 ·have hm:=Lib.hid (decide_eq_false fun h=>c (hr.2 h));clear hr;go_wp2;go_ret;exact⟨vA (by rw[hm.out];exact decide_eq_false aa),d1⟩
end
section
attribute[local go_sem high]ah
attribute[local simp high]ah
attribute[local go_sem]ol sJ
theorem oI{p:Prop}(h:PQ p:=by have HF:=Lib.hid (fun(W:World)(hS:(aw wr) W)=>And.intro ((show Bx W 0 []from trivial)) (And.intro (bm R1.out (hS.out.block g aa)) (bm R2.out (hS.out.block g aa))));exact pq (HF)):p:=h
theorem aV.cut{W:World}{B:Nat}{e:TypeId}{n g m cap:Nat}{L:List (Array Value)}(h:aV W B e n (G g m cap) L)(k:Nat)(hk:k≤m)(Zx:Array Value)(hZ:Zx.size=(m-k)*n)(h1:Zx.all (·.oneCell')=true):(storeCells ⟨g,k*n,none⟩ Zx.toList).run Tryz.prog W= .ok () (dK W g (k*n) Zx)∧aV (dK W g (k*n) Zx) B e n (G g k cap) (L.take k):=by
 obtain⟨hk1,hmc⟩:=h.take k hk;obtain⟨⟨k1,k2⟩,k3⟩:=hk1;rcases k2 with⟨k2,_⟩|⟨g',cap',cur,e',hB,hg,hc,hm,hz,ht⟩;·cases k2
 simp only[Value.slice.injEq,Option.some.injEq,Addr.mk.injEq,and_true,true_and]at e';obtain⟨rfl,e1,rfl⟩:=e';have hle:k*n+Zx.size≤cap*n:=by rw[hZ,←Nat.add_mul];exact Nat.mul_le_mul_right n aa
 have hrow:aH W g=cur:=by unfold aH;rw[hg]
 have hr:=run_storeCells_at (P:=Tryz.prog) g (k*n) e Zx.toList 0 cur W hg aF (fun v hv=>(Array.all_eq_true_iff_forall_mem.1 h1) v (by simpa using hv));refine⟨?_,⟨⟨k1,.inr ⟨g,cap,er cur (k*n) Zx,by rw[←e1],hB,?_,hc,hm,?_,?_⟩⟩,k3⟩⟩;·rw[hr];unfold dK er;rw[hrow];simp
 ·rw[dK,hrow];unfold World.setRow;simp[Array.getElem?_modify,hg]
 ·rw[sV aa];exact hz
 ·rw[←e1]at ht⊢;rw[←ht];have hcl:(cur.toList.take (k*n)).length=k*n:=aF;unfold er;simp only[List.toList_toArray,List.append_assoc];rw[List.take_append_of_le_length aa,List.take_of_length_le aa]
theorem OD:Tryz.prog.underlying 396=some (.slice 39):=af
theorem Qh(w:World):(zeroValue 39).run Tryz.prog w= .ok (.agg #[F,U,U,Z]) w:=af
theorem NW{W:World}{B g m cap:Nat}{L:List (Array Value)}(h:aV W B 39 4 (G g m cap) L)(k:Nat)(hk:k<m):∃Zx:Array Value,(∀ty,(Builtin.clear_ #[396] ty #[E (some ⟨g,k*4,none⟩) (m-k) (cap-k)]).run Tryz.prog W= .ok (.tuple #[]) (dK W g (k*4) Zx))∧aV (dK W g (k*4) Zx) B 39 4 (G g k cap) (L.take k):=by
 have h0:(Builtin.zeroCells #[F,U,U,Z] (m-k)).size=(m-k)*4:=by simp[Builtin.zeroCells]
 have h1:(Builtin.zeroCells #[F,U,U,Z] (m-k)).all (·.oneCell')=true:=by
  rw[Array.all_eq_true_iff_forall_mem];intro v hv;simp only[Builtin.zeroCells,Array.mem_map,Array.mem_range]at hv;obtain⟨i,-,rfl⟩:=hv;have:i%4<4:=Nat.mod_lt _ aa;show(#[Value.bool false,.int .u64 0,.int .u64 0,.int .i64 0][i%4]!).oneCell'=true;generalize i%4=j at*;match j,this with
   |0,_=>rfl
   |1,_=>rfl
   |2,_=>rfl
   |3,_=>rfl
 obtain⟨h2,h3⟩:=h.cut k aa _ h0 h1;refine⟨_,fun ty=>?_,h3⟩;obtain⟨q,hq⟩:∃q,m-k=q+1:=⟨m-k-1,aa⟩;rw[hq]at h2⊢;simp only[Builtin.clear_];simp[run_underlying OD,Qh,Value.cells];simp[h2]
theorem vJ{L:List Nt}{k:Nat}{x:Nt}(hx:L[k]? =some x)(hm:x∈L.take k)(z:Nt):z∈L.take k↔z∈L.take (k+1):=by obtain⟨hk,rfl⟩:=List.getElem?_eq_some_iff.1 hx;rw[List.take_succ_eq_append_getElem hk,List.mem_append,List.mem_singleton];exact⟨.inl,fun h=>h.elim id fun h=>h▸hm⟩
theorem Cj{D L:List Nt}{a:Nat}(h:D.drop a=L.drop a):D.drop (a+1)=L.drop (a+1):=by rw[←List.drop_drop,←List.drop_drop,h]
theorem ID{D L:List Nt}{a k:Nat}{x:Nt}(h:D.drop a=L.drop a)(hk:k<a+1):(D.set k x).drop (a+1)=L.drop (a+1):=by rw[List.drop_set_of_lt hk];exact Cj h
theorem IE{D L:List Nt}{k m:Nat}{x:Nt}(hx:L[m]? =some x)(h:∀z,z∈D.take k↔z∈L.take m)(hk:k<D.length)(z:Nt):z∈(D.set k x).take (k+1)↔z∈L.take (m+1):=by obtain⟨hm,rfl⟩:=List.getElem?_eq_some_iff.1 hx;rw[List.take_succ_eq_append_getElem hm,List.take_succ_eq_append_getElem (by simpa using hk),List.take_set_of_le (Nat.le_refl _),List.mem_append,List.mem_append,h];simp
theorem AH(B:Nat)(a:Option Addr)(cap:Nat)(L:List Nt)(w:World)(h:aV w B 39 4 (E a L.length cap) (L.map mQ))(hl:L.length≤100000):Calls Tryz.prog 327 #[E a L.length cap] w fun e w'=>∃D:List Nt,e= .returned (E a D.length cap)∧aV w' B 39 4 (E a D.length cap) (D.map mQ)∧(∀x,x∈D↔x∈L)∧D.length≤L.length∧Below (min B w.heap.size) w w':=by
 have HS:=Lib.hid h;clear h;obtain⟨n,hn⟩:∃n,n=L.length:=⟨_,rfl⟩;rw[←hn]at HS hl⊢;replace hn:=Lib.hid hn;by_cases h2:n<2;·have h2':(n:Int)<2:=aa;go_enter Tryz.func327,Tryz.ntmps327;go_wp2;go_ret;exact⟨L,by rw[←hn.out];rfl,by rw[←hn.out];exact HS.out,fun _=>Iff.rfl,by rw[hn.out];exact Nat.le_refl _,Below.refl _ _⟩
 have h2':¬((n:Int)<2):=aa;go_enter Tryz.func327,Tryz.ntmps327;go_wp2_with fail;go_loopg[3](n-1)(fun gk s3 wr=>∃k:Nat,s3= .int .i64 (k:Int)∧1≤k∧k+gk=n∧Hid (Below w.heap.size w wr));case atStart=>exact⟨1,rfl,Nat.le_refl _,aa,Lib.hid (Below.refl _ _)⟩
 case round=>
  obtain⟨k,rfl,hk1,hg,HK⟩:=hrel;cases gk with
   |zero=>have hk:¬((k:Int)<(n:Int)):=aa;go_wp2;go_ret;exact⟨L,by rw[←hn.out];rfl,by rw[←hn.out];exact HS.out.below HK.out,fun _=>Iff.rfl,by rw[hn.out];exact Nat.le_refl _,HK.out.mono aa⟩
   |succ gk'=>
    obtain⟨j,rfl⟩:∃j,k=j+1:=⟨k-1,aa⟩;have hk:((j+1:Nat):Int)<(n:Int):=aa;have hk':(j:Int)+1<(n:Int):=aa;have hk0:0≤(j:Int)+1:=aa;have hkn:¬((j:Int)+1<0):=aa;have ht1:((j:Int)+1).toNat=j+1:=aa;have hwj:IntKind.i64.wrap (j:Int)=(j:Int):=eD;have hkj:(j:Int)<(n:Int):=aa;have hw:IntKind.i64.wrap (((j+1:Nat):Int)-1)=(j:Int):=eD;have hw':((j+1:Nat):Int)-1=(j:Int):=aa;obtain⟨x,hx⟩:∃x,L[j+1]? =some x:=⟨_,List.getElem?_eq_getElem ig⟩;obtain⟨y,hy⟩:∃y,L[j]? =some y:=⟨_,List.getElem?_eq_getElem ig⟩;obtain⟨g,rfl,hgB,hgr,-,q1,-,-⟩:=gw nw (HS.out.below HK.out) hx;obtain⟨g',e',-,-,-,q2,-,-⟩:=gw nw (HS.out.below HK.out) hy;cases e';have R1:=Lib.hid q1;have R2:=Lib.hid q2;simp only[mQ]at R1 R2;have sr:=HK.out.size;clear q1 q2;by_cases c:x=y;·
     have ec:=ON x y;rw[decide_eq_true c]at ec;have HX:=Lib.hid (And.intro hx (And.intro hy c));clear hx hy c;go_upto_region 6 with(fail);have HF:=oI;refine cQ (aw wr) [0,1,2,3,4,5,6,7,8,9] 0 ?_;iterate 10 refine pO ?_
     refine pE ?_;refine cU ?_;have HK1:=Lib.hid (HK.out.trans ((cb:Below wr.heap.size wr wr.drew).mono aa));have hcap:=(HS.out.take 0 aa).2;have hcn:¬(cap=j+1):=aa;have hcn':¬(j+1=cap):=aa;have hcl:(j:Int)+1≤(cap:Int):=aa;have hcl':(j:Int)+1≤(n:Int):=aa;have HO1:=Lib.hid (HS.out.below HK1.out);clear R1 R2 HF;go_wp2_with fail;go_loopg[3,5](n-(j+1)-1)(fun g' s3 s5 wr=>∃(k q:Nat)(D:List Nt),s3= .int .i64 (k:Int)∧s5= .int .i64 (q:Int)∧1≤q∧q+g'=n-(j+1)∧j+1≤k∧k+1≤j+1+q∧Hid (D.length=n∧D.drop (j+q)=L.drop (j+q)∧(∀z,z∈D.take k↔z∈L.take (j+1+q)))∧Hid (aV wr B 39 4 (G g n cap) (D.map mQ))∧Hid (Below (min B w.heap.size) w wr));case atStart=>refine⟨j+1,1,L,rfl,rfl,Nat.le_refl _,aa,Nat.le_refl _,Nat.le_refl _,Lib.hid ⟨hn.out.symm,rfl,fun z=>?_⟩,HO1,Lib.hid (HK1.out.mono aa)⟩;obtain⟨hx,hy,c⟩:=HX.out;refine vJ hx ?_ z;rw[c];exact List.mem_of_getElem? (i:=j) (by rw[List.getElem?_take,if_pos aa];exact hy)
     case round=>
      obtain⟨k,q,D,rfl,rfl,hq1,hqg,hjk,hkq,HD,HO,HK⟩:=hrel;have sr:=HK.out.size;clear HX HK1 HO1;cases gk with
       |zero=>have hqn:¬((q:Int)<((n-(j+1):Nat):Int)):=aa;obtain⟨hDl,hDd,hDm⟩:=HD.out;obtain⟨Zx,hcl,hO9⟩:=NW HO.out k aa;have hO9:=Lib.hid (by rw[←List.map_take]at hO9;exact hO9:aV (dK wr g (k*4) Zx) B 39 4 (G g k cap) ((D.take k).map mQ));have hDm:=Lib.hid (show∀z,z∈D.take k↔z∈L from fun z=>(hDm z).trans (by rw[List.take_of_length_le (by have:=hn.out;omega)]));have hDk:=Lib.hid (show(D.take k).length=k by rw[List.length_take,hDl];omega);have d9:Below (min B w.heap.size) w (dK wr g (k*4) Zx):=ce HK.out aa _ _;have k1:(k:Int)≤(n:Int):=aa;have k2:0≤(k:Int):=aa;have k3:(k:Int)≤(cap:Int):=aa;have k4:¬(cap=k):=aa;have k5:¬(k=cap):=aa;clear hDl hDd HO;go_wp2;go_ret;exact⟨D.take k,by rw[hDk.out];rfl,by rw[hDk.out];exact hO9.out,hDm.out,by rw[hDk.out];omega,d9⟩
       |succ gk''=>
        obtain⟨r,rfl⟩:∃r,q=r+1:=⟨q-1,aa⟩;obtain⟨hDl,hDd,hDm⟩:=HD.out;have hg1:D[j+1+(r+1)]? =L[j+1+(r+1)]? :=by have:=congrArg (fun l=>l[1]?) hDd;simp only[List.getElem?_drop]at this;rw[show j+1+(r+1)=j+(r+1)+1 by omega];exact this
        have hg0:D[j+1+r]? =L[j+1+r]? :=by have:=congrArg (fun l=>l[0]?) hDd;simp only[List.getElem?_drop]at this;rw[show j+1+r=j+(r+1)+0 by omega];exact this
        obtain⟨x2,hx2⟩:∃x,L[j+1+(r+1)]? =some x:=⟨_,List.getElem?_eq_getElem ig⟩;obtain⟨y2,hy2⟩:∃x,L[j+1+r]? =some x:=⟨_,List.getElem?_eq_getElem ig⟩;obtain⟨v2,hv2⟩:∃x,D[k]? =some x:=⟨_,List.getElem?_eq_getElem (by rw[hDl];omega)⟩;obtain⟨g',e',-,hgr2,-,q1,-,-⟩:=gw nw HO.out (hg1.trans hx2);cases e';obtain⟨g',e',-,-,-,q2,-,-⟩:=gw nw HO.out (hg0.trans hy2);cases e';obtain⟨g',e',-,-,-,-,f3,O3⟩:=gw nw HO.out hv2;cases e';have hO9:=Lib.hid (O3 x2);rw[Nat.add_mul]at q1 q2;have R1:=Lib.hid q1;have R2:=Lib.hid q2;simp only[mQ]at R1 R2;have hX:=Lib.hid (And.intro hx2 hy2);clear q1 q2 O3 hv2 hg0 hg1 hx2 hy2 hDl hDd hDm;have hk:((r+1:Nat):Int)<((n-(j+1):Nat):Int):=aa;have hk':(r:Int)+1<((n-(j+1):Nat):Int):=aa;have hkr:(r:Int)<((n-(j+1):Nat):Int):=aa;have hwr:IntKind.i64.wrap (((r+1:Nat):Int)-1)=(r:Int):=eD;have hwr':((r+1:Nat):Int)-1=(r:Int):=aa;have hwr1:IntKind.i64.wrap (r:Int)=(r:Int):=eD;have hr0:0≤(r:Int)+1:=aa;have hrn:¬((r:Int)+1<0):=aa;have htr:((r:Int)+1).toNat=r+1:=aa;have hkk:(k:Int)<(n:Int):=aa;by_cases c:x2=y2;·
         have ec:=ON x2 y2;rw[decide_eq_true c]at ec;have c:=Lib.hid c;go_upto_region 11 with(fail);have HF:=oI;refine cQ (aw wr) [0,1,2,3,4,5,6,7,8,9] 0 ?_;iterate 10 refine pO ?_
         refine pE ?_;refine cU ?_;go_wp2_with fail;go_roundg gk'';case measure=>omega
         case rel=>refine⟨k,r+1+1,D,rfl,ay,aa,aa,aa,aa,Lib.hid ?_,Lib.hid (HO.out.below cb),Lib.hid (HK.out.trans ((cb:Below wr.heap.size wr _).mono aa))⟩;obtain⟨hDl,hDd,hDm⟩:=HD.out;exact⟨hDl,Cj (a:=j+(r+1)) hDd,fun z=>(hDm z).trans (vJ hX.out.1 (by rw[c.out];exact List.mem_of_getElem? (i:=j+1+r) (by rw[List.getElem?_take,if_pos aa];exact hX.out.2)) z)⟩
        ·have ec:=ON x2 y2;rw[decide_eq_false c]at ec;have ec3:(!decide (x2.s=y2.s)||(!decide (x2.h=y2.h)||(!decide (x2.l=y2.l)||!decide (x2.b=y2.b))))=true:=by have:=congrArg (!·) ec;simpa only[Bool.not_and,Bool.not_false]using this
         go_upto_region 11 with(fail);have HF:=oI;refine cQ (aw wr) [0,1,2,3,4,5,6,7,8,9] 0 ?_;iterate 10 refine pO ?_
         refine pE ?_;refine cU ?_;clear HF c;obtain⟨e1,e2⟩:=R1.out;have d9:Below (min B w.heap.size) w (dK wr.drew g (k*4) #[x2.s,J x2.h,J x2.l,x2.b]):=ce (HK.out.trans ((cb:Below wr.heap.size wr wr.drew).mono aa)) aa _ _;go_wp2_with fail;go_roundg gk'';case measure=>omega
         case rel=>refine⟨k+1,r+1+1,D.set k x2,ay,ay,aa,aa,aa,aa,Lib.hid ?_,Lib.hid (hO9.out.same fun _ _ _=>rfl),Lib.hid d9⟩;obtain⟨hDl,hDd,hDm⟩:=HD.out;exact⟨by simpa using hDl,ID (a:=j+(r+1)) hDd aa,fun z=>IE hX.out.1 hDm (by rw[hDl];omega) z⟩
    ·have ec:=ON x y;rw[decide_eq_false c]at ec;clear hx hy c;go_upto_region 6 with(fail);have HF:=oI;refine cQ (aw wr) [0,1,2,3,4,5,6,7,8,9] 0 ?_;iterate 10 refine pO ?_
     refine pE ?_;refine cU ?_;go_wp2_with fail;go_roundg gk';case measure=>omega
     case rel=>exact⟨j+1+1,ay,aa,aa,Lib.hid (HK.out.trans ((cb:Below wr.heap.size wr _).mono aa))⟩
end
section
attribute[local go_sem high]ah
attribute[local simp high]ah
def Gr(W W':World):Prop:=∃q os,W'=Go.Sort.grow (W.drewN q) os
theorem Gr.refl(W:World):Gr W W:=⟨0,#[],by rw[Go.Sort.grow_empty];rfl⟩
theorem Gr.trans{W W' W2:World}(h:Gr W W')(k:Gr W' W2):Gr W W2:=by obtain⟨q,os,rfl⟩:=h;obtain⟨q',os',rfl⟩:=k;exact⟨q+q',os++os',by simp[Go.Sort.grow,World.drewN,Nat.add_assoc,Array.append_assoc]⟩
theorem Gr.drew{W W':World}(h:Gr W W'):Gr W W'.drew:=h.trans ⟨1,#[],by rw[Go.Sort.grow_empty];rfl⟩
theorem Gr.alloc{W W':World}(h:Gr W W')(o:Obj):Gr W (W'.alloc o):=h.trans ⟨0,#[o],by rw[Go.Sort.alloc_eq_grow];rfl⟩
theorem Gr.below{W W':World}(h:Gr W W'):Below W.heap.size W W':=by obtain⟨q,os,rfl⟩:=h;refine⟨rfl,rfl,rfl,by simp[Go.Sort.grow,World.drewN],fun k hk=>?_⟩;show(W.heap++os)[k]? =_;rw[Array.getElem?_append_left hk]
theorem sv{p:Prop}(h:p:=by repeat'(first|assumption|exact Gr.refl _|(with_reducible apply Gr.drew)|(with_reducible refine Gr.alloc ?_ _))):p:=h
theorem LP(six:Bool)(hi lo:Int)(w:World):Calls Tryz.prog 174 #[.agg #[six,J hi,J lo]] w fun e w'=>e= .returned (I (i7 six))∧Gr w w':=by cases six;all_goals go_enter Tryz.func174,Tryz.ntmps174;go_wp2;go_ret;exact⟨rfl,sv⟩
theorem PD(s1:Bool)(h1 l1:Int)(s2:Bool)(h2 l2:Int)(w:World):Calls Tryz.prog 117 #[.agg #[s1,J h1,J l1],.agg #[s2,J h2,J l2]] w fun e w'=>e= .returned (I (mP s1 h1 l1 s2 h2 l2))∧Gr w w':=by
 go_enter Tryz.func117,Tryz.ntmps117;go_upto_region 1 with(fail);have HB:=Lib.hid (dY:Bx ((w.alloc (.cells (#[s1,J h1,J l1]) 34)).alloc (.cells (#[s2,J h2,J l2]) 34)) w.heap.size [(34,3,#[s1,J h1,J l1]),(34,3,#[s2,J h2,J l2])]);have d0:Below w.heap.size w ((w.alloc (.cells (#[s1,J h1,J l1]) 34)).alloc (.cells (#[s2,J h2,J l2]) 34)):=bY;have g0:Gr w ((w.alloc (.cells (#[s1,J h1,J l1]) 34)).alloc (.cells (#[s2,J h2,J l2]) 34)):=sv;have sWB:w.heap.size+2≤((w.alloc (.cells (#[s1,J h1,J l1]) 34)).alloc (.cells (#[s2,J h2,J l2]) 34)).heap.size:=ay;generalize((w.alloc (.cells (#[s1,J h1,J l1]) 34)).alloc (.cells (#[s2,J h2,J l2]) 34))=WB at*;have fHB:=HB.out;simp only[Bx,Bo]at fHB;have HF:=Lib.hid (fun(W:World)(hS:(Gr WB) W)=>Bx.mono (Gr.below hS) HB.out aF);refine cQ (Gr WB) [0,2,5,6,7,8,10,11,12,13] 8 ?_ (hC:=sv);simp only[PL];iterate 10(refine ae rd ?_;try simp only[PT])
 refine aC ?_;refine bl 1 ?_;simp only[PL];go_wp2_with fail;refine(LP s1 h1 l1 _).mono ?_;rintro e w1q⟨rfl,hb⟩;have kq1:Gr WB w1q:=Gr.trans sv hb;have sq1:=kq1.below.size;have hB1:=Bx.mono kq1.below HB.out aF;simp only[Bx,Bo]at hB1;clear hb;go_wp2;refine ba ?_ sv;refine bl 3 ?_;simp only[PL];go_wp2_with fail;refine(LP s2 h2 l2 _).mono ?_;rintro e w3q⟨rfl,hb⟩;have kq3:Gr WB w3q:=Gr.trans sv hb;have sq3:=kq3.below.size;have hB3:=Bx.mono kq3.below HB.out aF;simp only[Bx,Bo]at hB3;clear hb;go_wp2;refine ba ?_ sv;refine bl 4 ?_;simp only[PL];go_wp2_with(go_at_call 118;refine(jd _ _ _).mono ?_;rintro e w4q⟨rfl,rfl⟩);refine ba ?_ sv;refine bl 9 ?_;simp only[PL];go_wp2_with(go_at_call 175;refine(lX _ _ _).mono ?_;rintro e w9q⟨rfl,rfl⟩);refine ba ?_ sv;refine bl 14 ?_;simp only[PL];go_wp2_with(go_at_call 175;refine(lX _ _ _).mono ?_;rintro e w14q⟨rfl,rfl⟩);refine ba ?_ sv;refine bl 15 ?_;simp only[PL];go_wp2;refine ba ?_ sv;refine bl 16 ?_;simp only[PL];go_wp2_with(go_at_call 116;refine(lM [fh (i7 s1) (i7 s2),fh h1 h2,fh l1 l2] _ _ _ rfl ay dq dq).mono ?_;rintro e w9⟨rfl,rfl⟩);refine ba ?_ sv;refine bE [17] 0 ?_ (hC:=sv);simp only[PL];refine ae rd ?_;try simp only[PT]
 refine aC ?_;refine cU ?_;go_wp2;go_ret;exact⟨rfl,g0.trans sv⟩
theorem PE(s1:Bool)(h1 l1 b1:Int)(s2:Bool)(h2 l2 b2:Int)(w:World):Calls Tryz.prog 73 #[.agg #[s1,J h1,J l1,b1],.agg #[s2,J h2,J l2,b2]] w fun e w'=>e= .returned (I (hJ s1 h1 l1 b1 s2 h2 l2 b2))∧Gr w w':=by
 go_enter Tryz.func73,Tryz.ntmps73;go_upto_region 1 with(fail);have HB:=Lib.hid (dY:Bx ((w.alloc (.cells (#[s1,J h1,J l1,b1]) 39)).alloc (.cells (#[s2,J h2,J l2,b2]) 39)) w.heap.size [(39,4,#[s1,J h1,J l1,b1]),(39,4,#[s2,J h2,J l2,b2])]);have d0:Below w.heap.size w ((w.alloc (.cells (#[s1,J h1,J l1,b1]) 39)).alloc (.cells (#[s2,J h2,J l2,b2]) 39)):=bY;have g0:Gr w ((w.alloc (.cells (#[s1,J h1,J l1,b1]) 39)).alloc (.cells (#[s2,J h2,J l2,b2]) 39)):=sv;have sWB:w.heap.size+2≤((w.alloc (.cells (#[s1,J h1,J l1,b1]) 39)).alloc (.cells (#[s2,J h2,J l2,b2]) 39)).heap.size:=ay;generalize((w.alloc (.cells (#[s1,J h1,J l1,b1]) 39)).alloc (.cells (#[s2,J h2,J l2,b2]) 39))=WB at*;have fHB:=HB.out;simp only[Bx,Bo]at fHB;have HF:=Lib.hid (fun(W:World)(hS:(Gr WB) W)=>Bx.mono (Gr.below hS) HB.out aF);refine cQ (Gr WB) [0,1,2,3,5,6,7,8] 5 ?_ (hC:=sv);simp only[PL];iterate 8(refine ae rd ?_;try simp only[PT])
 refine aC ?_;refine bl 4 ?_;simp only[PL];go_wp2_with fail;refine(PD s1 h1 l1 s2 h2 l2 _).mono ?_;rintro e w4q⟨rfl,hb⟩;have kq4:Gr WB w4q:=Gr.trans sv hb;have sq4:=kq4.below.size;have hB4:=Bx.mono kq4.below HB.out aF;simp only[Bx,Bo]at hB4;clear hb;go_wp2;refine ba ?_ sv;refine bl 9 ?_;simp only[PL];go_wp2_with(go_at_call 118;refine(jd _ _ _).mono ?_;rintro e w9q⟨rfl,rfl⟩);refine ba ?_ sv;refine bl 10 ?_;simp only[PL];go_wp2;refine ba ?_ sv;refine bl 11 ?_;simp only[PL];go_wp2_with(go_at_call 116;refine(lM [mP s1 h1 l1 s2 h2 l2,fh b1 b2] _ _ _ rfl ay dq dq).mono ?_;rintro e w9⟨rfl,rfl⟩);refine ba ?_ sv;refine bE [12] 0 ?_ (hC:=sv);simp only[PL];refine ae rd ?_;try simp only[PT]
 refine aC ?_;refine cU ?_;go_wp2;go_ret;exact⟨rfl,g0.trans sv⟩
def P9:Go.Shelf.Ren where
 f:=fun x=>match x with|6=>326|15=>336|14=>335|28=>348|29=>330|20=>340|21=>341|22=>342|23=>343|24=>344|25=>345|26=>346|27=>347|46=>352|47=>353|48=>354|49=>355|50=>356|57=>358|_=>x
 t:=fun x=>match x with|22=>396|24=>39|25=>175|39=>164|53=>119|55=>25|46=>425|45=>424|50=>228|66=>434|70=>235|76=>439|77=>297|_=>x
 g:=fun x=>x
theorem C5:SlLaysF0.n6 Tryz.prog P9:=by
 constructor;case f6=>exact⟨Tryz.f326.name,af,af⟩
 case f14=>exact⟨Tryz.f335.name,af,af⟩
 case f20=>exact⟨Tryz.f340.name,af,af⟩
 case f21=>exact⟨Tryz.f341.name,af,af⟩
 case f22=>exact⟨Tryz.f342.name,af,af⟩
 case f23=>exact⟨Tryz.f343.name,af,af⟩
 case f24=>exact⟨Tryz.f344.name,af,af⟩
 case f25=>exact⟨Tryz.f345.name,af,af⟩
 case f26=>exact⟨Tryz.f346.name,af,af⟩
 case f27=>exact⟨Tryz.f347.name,af,af⟩
 case f46=>exact⟨Tryz.f352.name,af,af⟩
 case f49=>exact⟨Tryz.f355.name,af,af⟩
 case f50=>exact⟨Tryz.f356.name,af,af⟩
 case f57=>exact⟨Tryz.f358.name,af,af⟩
 all_goals first|kernel_rfl|(intro w;kernel_rfl)
end
section
attribute[local go_sem high]ah
attribute[local simp high]ah
open Go.Sort(Holds HoldsK flatK putRowK SWO PermIn grow ahead)
instance :Inhabited Nt:=⟨⟨false,0,0,0⟩⟩
def rK(x:Nt):List Value:=[x.s,J x.h,J x.l,x.b]
def Ma(x y:Nt):Int:=hJ x.s x.h x.l x.b y.s y.h y.l y.b
theorem H4(a b:Int):qD [a,b]<0↔a<0∨a=0∧b<0:=by simp only[qD];split<;>(try split)<;>omega
theorem Bj(a b c:Int):(qD [a,b,c]<0↔a<0∨a=0∧(b<0∨b=0∧c<0))∧(qD [a,b,c]=0↔a=0∧b=0∧c=0):=by simp only[qD];split<;>(try split)<;>(try split)<;>omega
theorem xX(a b:Int):(fh a b<0↔a<b)∧(fh a b=0↔a=b):=by unfold fh;split<;>(try split)<;>omega
theorem AE(x y:Nt):Ma x y<0↔i7 x.s<i7 y.s∨i7 x.s=i7 y.s∧(x.h<y.h∨x.h=y.h∧(x.l<y.l∨x.l=y.l∧x.b<y.b)):=by unfold Ma hJ mP;rw[H4,(Bj _ _ _).1,(Bj _ _ _).2];simp only[(xX _ _).1,(xX _ _).2];omega
theorem Ra:SWO (ltOf Ma)where
 irrefl x:=by simp only[ltOf,AE,decide_eq_false_iff_not];omega
 trans x y z h1 h2:=by simp only[ltOf,AE,decide_eq_true_eq]at*;omega
 ntrans x y z h1 h2:=by simp only[ltOf,AE,decide_eq_false_iff_not]at*;omega
theorem yn(D:List Nt):(flatK rK 4 D.toArray).toList=flat (D.map mQ):=by
 have hs:∀C∈D.map mQ,C.size=4:=by intro C hC;obtain⟨x,-,rfl⟩:=List.mem_map.1 hC;rfl
 have hl:=eR hs;rw[List.length_map]at hl;apply List.ext_getElem?;intro j;by_cases hj:j<D.length*4;·
  have hd:j/4<D.length:=aa;have hm:j%4<4:=Nat.mod_lt _ aa;have h1:=qI (k:=j%4) (v:=(rK D[j/4])[j%4]!) hs (i:=j/4) (C:=mQ D[j/4]) (by rw[List.getElem?_map,List.getElem?_eq_getElem hd];rfl) (by
   generalize D[j/4]=x;generalize j%4=q at*;match q,hm with
    |0,_=>rfl
    |1,_=>rfl
    |2,_=>rfl
    |3,_=>rfl);rw[show j/4*4+j%4=j by omega]at h1;rw[h1];have hz:j<(flatK rK 4 D.toArray).size:=lx;rw[Array.getElem?_toList,Array.getElem?_eq_getElem hz,←getElem!_pos _ j hz,Go.Sort.get_flatK _ _ _ _ lx];simp[hd]
 ·rw[List.getElem?_eq_none aF,List.getElem?_eq_none aa]
theorem EL{W:World}{B g m cap:Nat}{D:List Nt}(h:aV W B 39 4 (G g m cap) (D.map mQ)):HoldsK rK 4 W g 0 D.toArray∧g<W.heap.size∧B≤g:=by
 obtain⟨⟨k1,k2⟩,k3⟩:=h;rcases k2 with⟨k2,_⟩|⟨g',cap',cur,e',hB,hg,hc,hm,hz,ht⟩;·cases k2
 simp only[Value.slice.injEq,Option.some.injEq,Addr.mk.injEq,and_true,true_and]at e';obtain⟨rfl,-,-⟩:=e';refine⟨fun j hj=>?_,(Array.getElem?_eq_some_iff.1 hg).1,hB⟩;have e:=congrArg (fun l=>l[j]?) (ht.trans (yn D).symm);have hj':j<D.length*4:=lx;simp only[List.length_map,List.getElem?_take,if_pos hj',Array.getElem?_toList]at e;rw[Array.getElem?_eq_getElem hj,←getElem!_pos _ j hj]at e;constructor;·simp only[World.cell?,hg,Nat.zero_add,e];rfl
 ·simp[World.frozen?,hg]
theorem Er{W:World}{B g m cap q:Nat}{D D':List Nt}{os:Array Obj}(h:aV W B 39 4 (G g m cap) (D.map mQ))(hl:D'.length=D.length):aV (sortWorldK rK 4 W g 0 q D'.toArray os) B 39 4 (G g m cap) (D'.map mQ):=by
 obtain⟨⟨k1,k2⟩,k3⟩:=h;rcases k2 with⟨k2,_⟩|⟨g',cap',cur,e',hB,hg,hc,hm,hz,ht⟩;·cases k2
 simp only[Value.slice.injEq,Option.some.injEq,Addr.mk.injEq,and_true,true_and,List.length_map]at e';obtain⟨rfl,e1,rfl⟩:=e';have hgl:=(Array.getElem?_eq_some_iff.1 hg).1;have hs:∀C∈D'.map mQ,C.size=4:=by intro C hC;obtain⟨x,-,rfl⟩:=List.mem_map.1 hC;rfl
 have hf:=eR hs;have hFs:(flatK rK 4 D'.toArray).size=D.length*4:=by simp[hl]
 simp only[List.length_map]at hc ht;refine⟨⟨hf,.inr ⟨g,cap,Go.Sort.putCells id 0 (flatK rK 4 D'.toArray) cur,by simp[hl,e1],hB,?_,by simpa[hl]using hc,hm,by simpa[Go.Sort.putCells]using hz,?_⟩⟩,fun C hC=>?_⟩;·show(grow _ os).heap[g]? =_;simp only[grow];rw[Array.getElem?_append_left (by simp[putRowK];exact hgl)];simp[putRowK,Go.Sort.putRow,Go.Sort.mapBlock,Array.getElem?_modify,hg,Go.Sort.onCells]
 ·rw[List.length_map,hl,←yn];apply List.ext_getElem?;intro j;by_cases hj:j<D.length*4;·
   have hjc:j<cur.size:=by rw[hz];omega
   have hjF:j<(flatK rK 4 D'.toArray).size:=by rw[hFs];exact hj
   rw[List.getElem?_take,if_pos hj,Array.getElem?_toList,Array.getElem?_toList,Array.getElem?_eq_getElem hjF];simp only[Go.Sort.putCells,Array.getElem?_mapIdx,Array.getElem?_eq_getElem hjc,Option.map_some];rw[if_pos ⟨Nat.zero_le _,by rw[hFs];omega⟩,Nat.sub_zero,getElem!_pos _ j hjF];rfl
  ·rw[List.getElem?_take,if_neg hj,List.getElem?_eq_none (by simp[hFs];omega)]
 ·obtain⟨x,-,rfl⟩:=List.mem_map.1 hC;exact nw x
theorem yx{W:World}{B g q:Nat}{D':List Nt}{os:Array Obj}(hB:B≤g)(hg:g<W.heap.size):Below B W (sortWorldK rK 4 W g 0 q D'.toArray os):=by refine⟨rfl,rfl,rfl,by simp[sortWorldK,grow,putRowK],fun k hk=>?_⟩;show(grow _ os).heap[k]? =_;simp only[grow];rw[Array.getElem?_append_left (by simp[putRowK];omega)];simp[putRowK,Go.Sort.putRow,Go.Sort.mapBlock,Array.getElem?_modify,show¬(g=k)by omega]
theorem RJ(args:Array Value)(w:World):(callFunc 73 args).run Tryz.prog w= .ok (.enter 73 args) w:=enters_of Tryz.func73 af rfl args w
theorem Bg(B g m cap:Nat)(L:List Nt)(w:World)(h:aV w B 39 4 (G g m cap) (L.map mQ))(hl:L.length≤100000):Calls Tryz.prog 326 #[G g m cap,.func (.func 73) #[] #[]] w fun e w'=>e= .returned (.tuple #[])∧∃D:List Nt,D.length=L.length∧(∀x,x∈D↔x∈L)∧aV w' B 39 4 (G g m cap) (D.map mQ)∧Below B w w':=by
 obtain⟨hH,hg,hB⟩:=EL h;have hm:m=L.toArray.size:=by obtain⟨a,c,e,-⟩:=h.sl;simp only[Value.slice.injEq]at e;simp[e.2.1]
 have hc:=AnyQ.slices_SortFunc C5 4 (fun w=>af) (fun w=>af) rK (fun _=>rfl) (fun x v hv=>by simp only[rK,List.mem_cons,List.not_mem_nil,or_false]at hv;rcases hv with rfl|rfl|rfl|rfl<;>rfl) Ma Ra 73 #[] g 0 cap L.toArray w RJ (fun _ _ _ _ x y=>PE x.s x.h x.l x.b y.s y.h y.l y.b _) hH hg aF;rw[←hm]at hc;refine hc.mono ?_;rintro e w'⟨rfl,d',n,os,⟨hp1,-,hp2⟩,-,rfl⟩;obtain⟨D⟩:=d';have hp1':D.length=L.length:=by simpa using hp1
 have hp:D.Perm L:=by simpa[hm,hp1',List.take_of_length_le]using hp2
 exact⟨rfl,D,hp.length_eq,fun x=>hp.mem_iff,Er h hp.length_eq,yx hB hg⟩
end
end Go.Proofs.YtnncjbkepakgpaaGreat
