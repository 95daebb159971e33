/- HOW THE PLAIN THINGS LIE IN MEMORY: cells of calls, values, operations, replies; slices of structs. STRUCTS INSIDE STRUCTS: loaded and stored whole, at a place of a block. ROWS OF A WORLD THAT IS ONLY A LETTER: what a store into a row leaves; what a call leaves. SHORT: what the walks of this proof s -/
import Derived.Test.YtnncjbkepakgpaaGreatA03
import Derived.Test.YtnncjbkepakgpaaGreatA04
import Derived.Laws.AppendOwn
import Derived.OwnWalk
import Derived.WalkSmall
namespace Go.Proofs.YtnncjbkepakgpaaGreat
open Go.RowKit Qv
set_option linter.unusedVariables false
set_option linter.unusedSimpArgs false
set_option maxRecDepth 100000
def aM(c:Nat):Int:=167772161+65536*(Pm.kOf c:Int)
def aJ(c:Nat):Array Value:=#[F,U,J (aM c),I 80,Y,I (Pm.tOf c),Z,I (Pm.tOf c),Z,Z]
def Ae:Pm.Val→Array Value
 | .num n=>#[n,F,U,U,Z,F,Z,Z,Z,Z,Z,V,V]
 | .who c=>#[Z,F,U,J (aM c),I 80,Y,I (Pm.tOf c),Z,I (Pm.tOf c),Z,Z,V,V]
def Rq:Pm.Op→Array Value
 | .lock k=>#[I 1,k,Z,Z,Z,Z,Z,Z,F,U,U,Z,F,Z,Z,Z,Z,Z,V,V,F]
 | .share=>#[I 2,Z,Z,Z,Z,Z,Z,Z,F,U,U,Z,F,Z,Z,Z,Z,Z,V,V,F]
 | .free k m=>#[I 3,k,Z,Z,Z,Z,Z,Z,F,U,U,Z,F,Z,Z,Z,Z,Z,V,V,m]
 | .drop=>#[I 4,Z,Z,Z,Z,Z,Z,Z,F,U,U,Z,F,Z,Z,Z,Z,Z,V,V,F]
 | .bans=>#[I 5,Z,I 3,Z,Z,Z,Z,Z,F,U,U,Z,F,Z,Z,Z,Z,Z,V,V,F]
 | .inn=>#[I 5,Z,I 1,Z,Z,Z,Z,Z,F,U,U,Z,F,Z,Z,Z,Z,Z,V,V,F]
 | .size p=>#[I 5,Z,I 5,p,Z,Z,Z,Z,F,U,U,Z,F,Z,Z,Z,Z,Z,V,V,F]
 | .slot p i=>#[I 5,Z,I 6,p,i,Z,Z,Z,F,U,U,Z,F,Z,Z,Z,Z,Z,V,V,F]
 | .wslot p i c=>#[I 6,Z,I 6,p,i,Z,Z,Z,F,U,J (aM c),I 80,Y,I (Pm.tOf c),Z,I (Pm.tOf c),Z,Z,V,V,F]
 | .wsize p n=>#[I 6,Z,I 5,p,Z,Z,Z,n,F,U,U,Z,F,Z,Z,Z,Z,Z,V,V,F]
 | .swap n=>#[I 7,Z,I 1,Z,Z,n,I (n+1),Z,F,U,U,Z,F,Z,Z,Z,Z,Z,V,V,Y]
def fM(c:Nat):Array Value:=#[I 1,F,U,J (aM c),I 80,F,U,U,Z,I (Pm.tOf c),Z,F]
def PF(most S:Nat):Array Value:=#[most,I 4,S,I 64,I 64,J 1,I 1,I 1,I 1,I 64,I 100,I 100,I 1000,I 2,I 64,I 4]
def jI(most S c:Nat):Array Value:=PF most S++fM c
def Iw(b:Bool):Array Value:=#[I (if b then 0 else 5),F,U,U,Z,Z,Z,V]
theorem E6(v:Pm.Val):(Ae v).size=13:=by cases v<;>rfl
theorem E5(v:Pm.Val):bB (Ae v)=true:=by cases v<;>rfl
theorem H3(o:Pm.Op):(Rq o).size=21:=by cases o<;>rfl
theorem H0(o:Pm.Op):bB (Rq o)=true:=by cases o<;>rfl
theorem zp(b:Bool):(Iw b).size=8:=rfl
theorem cF(g o k:Nat):(⟨g,o,none⟩:Addr).add k=⟨g,o+k,none⟩:=BT
/-! Elements of n cells each, from a place on. -/
structure jr(W:World)(g o n:Nat)(C:Array Value):Prop where
 lt:g<W.heap.size
 is:aR W ⟨g,o,none⟩ n=true
 of:aO W ⟨g,o,none⟩ n=C
 one:bB C=true
theorem jr.size{W:World}{g o n:Nat}{C:Array Value}(h:jr W g o n C):C.size=n:=by rw[←h.of];exact sY _ _ _
theorem jr.block{W W':World}{g o n:Nat}{C:Array Value}(h:jr W g o n C)(hw:W'.heap[g]? =W.heap[g]?):jr W' g o n C:=by
 have e:=bS (W:=W) (W':=W') (p:=⟨g,o,none⟩) (n:=n) hw;refine⟨?_,e.1.trans h.is,e.2.trans h.of,h.one⟩;rcases Nat.lt_or_ge g W'.heap.size with h'|h';·exact h'
 ·rw[Array.getElem?_eq_none h',Array.getElem?_eq_getElem h.lt]at hw;cases hw
theorem jr.cell{W:World}{g o n:Nat}{C:Array Value}(h:jr W g o n C){k:Nat}{v:Value}(hv:C[k]? =some v):W.cell? ⟨g,o+k,none⟩=some v:=by
 have hk:k<n:=by rw[←h.size];exact(Array.getElem?_eq_some_iff.1 hv).1
 have:=iV h.is hk;rw[h.of,hv]at this;simpa[cF]using this
def flat(L:List (Array Value)):List Value:=L.flatMap Array.toList
theorem fv(L M:List (Array Value)):flat (L++M)=flat L++flat M:=jF
theorem eR{n:Nat}:∀{L:List (Array Value)},(∀C∈L,C.size=n)→(flat L).length=L.length*n
 |[],_=>jF
 |C::L,h=>by have h1:=h C ay;have h2:=eR (L:=L) fun D hD=>h D (by simp[hD]);simp only[flat,List.flatMap_cons,List.length_append,Array.length_toList,List.length_cons]at h2⊢;rw[h1,h2,Nat.add_mul];omega
theorem qI{n:Nat}:∀{L:List (Array Value)}{i k:Nat}{C:Array Value}{v:Value},(∀C∈L,C.size=n)→L[i]? =some C→C[k]? =some v→(flat L)[i*n+k]? =some v
 |[],_,_,_,_,_,h,_=>by simp at h
 |D::L,0,k,C,v,hs,h,hv=>by simp only[List.getElem?_cons_zero,Option.some.injEq]at h;subst h;have hk:=(Array.getElem?_eq_some_iff.1 hv).1;simp only[flat,List.flatMap_cons,Nat.zero_mul,Nat.zero_add];rw[List.getElem?_append_left (by simpa using hk)];simpa using hv
 |D::L,i+1,k,C,v,hs,h,hv=>by have h1:=hs D ay;have:=qI (L:=L) (i:=i) (fun C hC=>hs C (by simp[hC])) rn hv;simp only[flat,List.flatMap_cons]at this⊢;rw[List.getElem?_append_right (by simp[h1,Nat.add_mul];omega)];simp only[Array.length_toList,h1];rw[show(i+1)*n+k-n=i*n+k by rw[Nat.add_mul];omega];exact this
theorem AY{n:Nat}(hn:0<n){L:List (Array Value)}(hs:∀C∈L,C.size=n){j:Nat}{u:Value}(h:(flat L)[j]? =some u):∃C,L[j/n]? =some C∧C[j%n]? =some u:=by have hj:=(List.getElem?_eq_some_iff.1 h).1;rw[eR hs]at hj;have hi:j/n<L.length:=(Nat.div_lt_iff_lt_mul hn).2 hj;have hm:=Nat.mod_lt j hn;have hC:=hs _ (List.getElem_mem hi);obtain⟨v,hv⟩:∃v,(L[j/n])[j%n]? =some v:=⟨_,Array.getElem?_eq_getElem (by rw[hC];exact hm)⟩;refine⟨_,List.getElem?_eq_getElem hi,?_⟩;have:=qI hs (List.getElem?_eq_getElem hi) hv;rw[Nat.mul_comm,Nat.div_add_mod,h]at this;rw[hv,this]
def Sl(W:World)(v:Value)(n:Nat)(L:List (Array Value)):Prop:=∃a cap,v= .slice a L.length cap∧L.length≤cap∧cap≤maxLen∧((a=none∧L=[])∨∃g o,a=some ⟨g,o,none⟩∧g<W.heap.size∧∀i C,L[i]? =some C→jr W g (o+i*n) n C)
theorem Sl.nil(W:World)(n:Nat):Sl W V n []:=⟨none,0,rfl,Nat.le_refl _,Nat.zero_le _,.inl ⟨rfl,rfl⟩⟩
theorem Sl.same{W W':World}{v:Value}{n:Nat}{L:List (Array Value)}(h:Sl W v n L)(hs:W.heap.size≤W'.heap.size)(hw:∀g,v.ownBlock=some g→g<W.heap.size→W'.heap[g]? =W.heap[g]?):Sl W' v n L:=by
 obtain⟨a,cap,rfl,h1,h2,h3⟩:=h;refine⟨a,cap,rfl,h1,h2,?_⟩;rcases h3 with h3|⟨g,o,rfl,hg,h3⟩;·exact .inl h3
 ·exact .inr ⟨g,o,rfl,Nat.lt_of_lt_of_le hg hs,fun i C hC=>(h3 i C hC).block (hw g rfl hg)⟩
theorem Sl.below{W W':World}{v:Value}{n:Nat}{L:List (Array Value)}(h:Sl W v n L)(hb:Below W.heap.size W W'):Sl W' v n L:=h.same hb.size fun g _ hg=>hb.block g hg
theorem Sl.upto{W W':World}{v:Value}{n T:Nat}{L:List (Array Value)}(h:Sl W v n L)(hb:ax T W W')(hT:v.ownBlock≠some T):Sl W' v n L:=h.same hb.size fun g hv hg=>hb.block g hg (fun e=>hT (by rw[←e];exact hv))
theorem Sl.lt{W:World}{v:Value}{n:Nat}{L:List (Array Value)}(h:Sl W v n L){g:Nat}(hg:v.ownBlock=some g):g<W.heap.size:=by
 obtain⟨a,cap,rfl,h1,h2,h3⟩:=h;rcases h3 with⟨rfl,_⟩|⟨q,o,rfl,hq,h3⟩;·simp[Value.ownBlock]at hg
 ·simp only[Value.ownBlock,Option.some.injEq]at hg;subst hg;exact hq
theorem Sl.sizes{W:World}{v:Value}{n:Nat}{L:List (Array Value)}(h:Sl W v n L):∀C∈L,C.size=n:=by
 obtain⟨a,cap,rfl,h1,h2,h3⟩:=h;rcases h3 with⟨_,rfl⟩|⟨q,o,rfl,hq,h3⟩;·intro C hC;simp at hC
 ·intro C hC;obtain⟨i,hi⟩:=List.mem_iff_getElem?.1 hC;exact(h3 i C hi).size
theorem Sl.ones{W:World}{v:Value}{n:Nat}{L:List (Array Value)}(h:Sl W v n L):∀C∈L,bB C=true:=by
 obtain⟨a,cap,rfl,h1,h2,h3⟩:=h;rcases h3 with⟨_,rfl⟩|⟨q,o,rfl,hq,h3⟩;·intro C hC;simp at hC
 ·intro C hC;obtain⟨i,hi⟩:=List.mem_iff_getElem?.1 hC;exact(h3 i C hi).one
theorem Sl.flat{W:World}{a:Addr}{m c n:Nat}{L:List (Array Value)}(hn:0<n)(h:Sl W (E (some a) m c) n L):(flat L).length=m*n∧(∀j u,(flat L)[j]? =some u→W.cell? (a.add j)=some u)∧∀u∈Go.Proofs.YtnncjbkepakgpaaGreat.flat L,u.oneCell'=true:=by
 have hs:=h.sizes;have h1:=h.ones;obtain⟨a',cap,e,_,_,h3⟩:=h;simp only[Value.slice.injEq]at e;obtain⟨rfl,rfl,rfl⟩:=e;rcases h3 with⟨h3,_⟩|⟨g,o,h3,hg,h4⟩;·cases h3
 ·simp only[Option.some.injEq]at h3;subst h3;refine⟨eR hs,fun j u hu=>?_,fun u hu=>?_⟩;·
   obtain⟨C,hC,hv⟩:=AY hn hs hu;have:=(h4 _ _ hC).cell hv;have e:o+j/n*n+j%n=o+j:=by rw[Nat.add_assoc,Nat.mul_comm,Nat.div_add_mod]
   rw[e]at this;simpa[cF]using this
  ·simp only[Go.Proofs.YtnncjbkepakgpaaGreat.flat,List.mem_flatMap,Array.mem_toList_iff]at hu;obtain⟨C,hC,hu⟩:=hu;have:=iO (h1 C hC);rw[Array.all_eq_true_iff_forall_mem]at this;exact this u hu
def aV(W:World)(B:Nat)(e:TypeId)(n:Nat)(v:Value)(L:List (Array Value)):Prop:=W.ownsRow B e n v L.length (flat L)∧(∀C∈L,C.size=n∧bB C=true)
theorem aV.nil(W:World)(B:Nat)(e:TypeId)(n:Nat):aV W B e n V []:=⟨World.ownsRow_nil _ _ _ _,ay⟩
theorem aV.base{W:World}{B:Nat}{e:TypeId}{n:Nat}{v:Value}{L:List (Array Value)}(h:aV W B e n v L){g:Nat}(hg:v.ownBlock=some g):B≤g∧g<W.heap.size:=h.1.lt g hg
theorem aV.same{W W':World}{B:Nat}{e:TypeId}{n:Nat}{v:Value}{L:List (Array Value)}(h:aV W B e n v L)(hw:∀g,v.ownBlock=some g→g<W.heap.size→W'.heap[g]? =W.heap[g]?):aV W' B e n v L:=by
 refine⟨⟨h.1.1,?_⟩,h.2⟩;rcases h.1.2 with h2|⟨g,cap,cur,h3,h4,h5,h6⟩;·exact .inl h2
 ·refine .inr ⟨g,cap,cur,h3,h4,?_,h6⟩;rw[hw g (by rw[h3];rfl) (Array.getElem?_eq_some_iff.1 h5).1];exact h5
theorem aV.below{W W':World}{B:Nat}{e:TypeId}{n:Nat}{v:Value}{L:List (Array Value)}(h:aV W B e n v L)(hb:Below W.heap.size W W'):aV W' B e n v L:=h.same fun g _ hg=>hb.block g hg
theorem aV.upto{W W':World}{B T:Nat}{e:TypeId}{n:Nat}{v:Value}{L:List (Array Value)}(h:aV W B e n v L)(hb:ax T W W')(hT:T<B):aV W' B e n v L:=h.same fun g hv hg=>hb.block g hg (by have:=(h.base hv).1;omega)
theorem aV.sl{W:World}{B:Nat}{e:TypeId}{n:Nat}{v:Value}{L:List (Array Value)}(h:aV W B e n v L):Sl W v n L:=by
 obtain⟨⟨h1,h2⟩,h3⟩:=h;have hs:∀C∈L,C.size=n:=fun C hC=>(h3 C hC).1;rcases h2 with⟨rfl,h2⟩|⟨g,cap,cur,rfl,h4,h5,h6,h7,h8,h9⟩;·have:L=[]:=List.eq_nil_of_length_eq_zero h2;subst this;exact Sl.nil _ _
 ·have hg:=(Array.getElem?_eq_some_iff.1 h5).1;refine⟨_,cap,rfl,h6,h7,.inr ⟨g,0,rfl,hg,fun i C hC=>?_⟩⟩;have hCs:=hs C (List.mem_of_getElem? hC);have hr:=fO (W:=W) (p:=⟨g,0+i*n,none⟩) (cs:=C.toList) (n:=n) (by simpa using hCs) (fun k v hv=>by
   have h10:=qI hs hC (k:=k) (v:=v) (by simpa using hv);rw[←h9]at h10;have h11:cur.toList[i*n+k]? =some v:=by
    rw[List.getElem?_take]at h10;split at h10;·exact h10
    ·cases h10
   have:W.cell? ⟨g,i*n+k,none⟩=some v:=by rw[cell_of_row W g _ cur e (0,0) h5];simpa using h11
   simpa[cF]using this);exact⟨hg,hr.1,by simpa using hr.2,(h3 C (List.mem_of_getElem? hC)).2⟩
theorem cY(w:World)(C:Array Value)(t:TypeId)(n:Nat)(g:Nat)(hg:g=w.heap.size)(hn:C.size=n)(h1:bB C=true):Sl (w.alloc (.cells C t)) (G g 1 1) n [C]:=by
 subst hg;refine⟨_,1,rfl,Nat.le_refl _,fZ,.inr ⟨w.heap.size,0,rfl,ay,fun i D hD=>?_⟩⟩;match i,hD with
  |0,hD=>
   simp only[List.getElem?_cons_zero,Option.some.injEq]at hD;subst hD;refine⟨ay,?_,?_,h1⟩;·simpa using pY w C t w.heap.size n rfl hn
   ·simpa using qa w C t w.heap.size n rfl hn
  |i+1,hD=>simp at hD
theorem eK{P:Program}{ops:Array Oper}{rest:List Oper}{o:Oper}{a:Act}{w:World}{Q:Exit→Act→World→Prop}(hgd:o.guard=none)(s x:Operand)(t:TypeId)(ho:o.op= .call {callee:=.builtin .append,args:=#[s,x],argTypes:=#[t,t]})(B:Nat)(e:TypeId)(i:TypeInfo)(z:Value)(n bytes:Nat)(ht:P.underlying t=some (.slice e))(hi:P.info? e=some i)(hz:i.zero=some z)(hsize:i.size=n)(hby:i.bytes=bytes)(hzs:z.cells.size=n)(hsz:0<n)(v:Value)(L M:List (Array Value))(hs:a.eval s=v)(hown:aV w B e n v L)(ad:Addr)(m c:Nat)(hx:a.eval x= .slice (some ad) m c)(hM:Sl w (E (some ad) m c) n M)(hbytes:(L.length+M.length)*bytes≤140737488355328)(hlen:L.length+M.length≤1000000)(hbase:B≤w.heap.size)(h:∀v' w',aV w' B e n v' (L++M)→Below B w w'→(v'= .slice none 0 0↔v= .slice none 0 0∧M=[])→wpList P ops Q rest (a.put o.dst v') w'):wpList P ops Q (o::rest) a w:=by
 obtain⟨h1,h2,h3⟩:=hM.flat hsz;have hm:m=M.length:=by obtain⟨_,_,e,_⟩:=hM;simp only[Value.slice.injEq]at e;exact e.2.1
 subst hm;refine wpList_append_own (P:=P) _ hgd s x t ho B e i z n bytes ht hi hz hsize hby hzs hsz v L.length (flat L) hs hown.1 ad M.length c (flat M) hx h1 h2 h3 fZ hbytes hbase fun v' w' k1 k2 k3=>h v' w' ⟨?_,?_⟩ ?_ ?_;·rw[fv,List.length_append];exact k1
 ·intro C hC;rcases List.mem_append.1 hC with hC|hC;·exact hown.2 C hC
  ·exact⟨hM.sizes C hC,hM.ones C hC⟩
 ·exact(Below.refl B w).grown k2 hbase fun q hq=>(hown.base hq).1
 ·rw[k3];constructor;·rintro⟨e1,e2⟩;exact⟨e1,List.eq_nil_of_length_eq_zero e2⟩
  ·rintro⟨e1,e2⟩;exact⟨e1,by rw[e2];rfl⟩
theorem Qs(n:Nat):n<n+1+1:=aa
theorem Qt(n:Nat):n<n+1+1+1:=aa
theorem Qu(n:Nat):n<n+1+1+1+1:=aa
def er(R:Array Value)(o:Nat)(C:Array Value):Array Value:=(R.toList.take o++C.toList++R.toList.drop (o+C.size)).toArray
def bU(W:World)(g o n:Nat):Bool:=match W.heap[g]? with
 |some (.cells cs _ fr)=>decide (fr=(0,0))&&decide (o+n≤cs.size)
 |_=>false
def dK(W:World)(g o:Nat)(C:Array Value):World:=W.setRow g (er (aH W g) o C)
theorem Ec{W:World}{g o n:Nat}(h:bU W g o n=true):∃t,W.heap[g]? =some (.cells (aH W g) t (0,0))∧o+n≤(aH W g).size:=by
 unfold bU at h;unfold aH;split at h;·rename_i cs u fr e;simp only[Bool.and_eq_true,decide_eq_true_eq]at h;obtain⟨rfl,h2⟩:=h;rw[e];exact⟨u,rfl,h2⟩
 ·cases h
theorem nZ(w:World)(C:Array Value)(t:TypeId)(g o n:Nat)(hg:g=w.heap.size)(hn:o+n≤C.size):bU (w.alloc (.cells C t)) g o n=true:=by subst hg;unfold bU;rw[(MapKept.heap_alloc w _).1];simp[hn]
theorem l4(w:World)(ob:Obj)(g o n:Nat)(hg:g<w.heap.size):bU (w.alloc ob) g o n=bU w g o n:=by unfold bU;rw[Below.heap_alloc w ob g hg]
theorem lZ(w:World)(g o n:Nat):bU w.drew g o n=bU w g o n:=rfl
theorem GJ{W:World}{g n o m:Nat}{t:TypeId}(h:aK W g t n=true)(hm:o+m≤n):bU W g o m=true:=by obtain⟨h1,h2⟩:=bK h;unfold bU;rw[h1];simp[h2,hm]
theorem sV{R C:Array Value}{o:Nat}(h:o+C.size≤R.size):(er R o C).size=R.size:=by simp[er];omega
theorem jp{R C:Array Value}(h:R.size=C.size):er R 0 C=C:=by unfold er;rw[List.take_zero,List.drop_eq_nil_of_le (by simp[h])];simp
theorem mD(R C:List Value)(o:Nat):er R.toArray o C.toArray=(R.take o++C++R.drop (o+C.length)).toArray:=by simp[er]
theorem mH(w:World)(D C:Array Value)(t:TypeId)(g o:Nat)(hg:g=w.heap.size):dK (w.alloc (.cells D t)) g o C=w.alloc (.cells (er D o C) t):=by unfold dK;rw[iq w D t g hg,nC w D _ t g hg]
theorem kP(w:World)(ob:Obj)(g o:Nat)(C:Array Value)(hg:g<w.heap.size):dK (w.alloc ob) g o C=(dK w g o C).alloc ob:=by unfold dK;rw[gJ w ob g hg,lS w ob g _ hg]
theorem kO(w:World)(g o:Nat)(C:Array Value):dK w.drew g o C=(dK w g o C).drew:=rfl
theorem ce{B:Nat}{a w:World}(h:Below B a w){g:Nat}(hg:B≤g)(o:Nat)(C:Array Value):Below B a (dK w g o C):=ai h hg _
theorem Dm(w:World)(C:Array Value)(t:TypeId)(g o n:Nat)(hg:g=w.heap.size)(hn:o+n≤C.size):aR (w.alloc (.cells C t)) ⟨g,o,none⟩ n=true∧aO (w.alloc (.cells C t)) ⟨g,o,none⟩ n=C.extract o (o+n):=by subst hg;have h:=fO (W:=w.alloc (.cells C t)) (p:=⟨w.heap.size,o,none⟩) (cs:=(C.extract o (o+n)).toList) (n:=n) aF (fun k v hk=>by rw[cF,World.cell?_alloc_new];simp only[Array.toList_extract,List.extract_eq_take_drop]at hk;have h1:=(List.getElem?_eq_some_iff.1 hk).1;simp only[List.length_take,List.length_drop,Array.length_toList]at h1;rw[List.getElem?_take_of_lt aa,List.getElem?_drop]at hk;simpa using hk);rw[Array.toArray_toList]at h;exact h
theorem l5(w:World)(C:Array Value)(t:TypeId)(g o n:Nat)(hg:g=w.heap.size)(hn:o+n≤C.size):aR (w.alloc (.cells C t)) ⟨g,o,none⟩ n=true:=(Dm w C t g o n hg hn).1
theorem mF(w:World)(C:Array Value)(t:TypeId)(g o n:Nat)(hg:g=w.heap.size)(hn:o+n≤C.size):aO (w.alloc (.cells C t)) ⟨g,o,none⟩ n=C.extract o (o+n):=(Dm w C t g o n hg hn).2
theorem gL{C:Array Value}{n:Nat}(h:C.size=n):C.extract 0 n=C:=by subst h;simp
theorem jh(l:List Value)(i j:Nat):l.toArray.extract i j=((l.drop i).take (j-i)).toArray:=by simp[List.extract_eq_take_drop]
theorem xl(T:TypeId)(n:Nat)(hi:(Tryz.prog.info? T).map (·.size)=some n){W:World}{g o:Nat}{C:Array Value}(h:bU W g o n=true)(hn:C.size=n)(h1:bB C=true):(storeVar T ⟨g,o,none⟩ (.agg C)).run Tryz.prog W= .ok () (dK W g o C):=by
 obtain⟨t,h2,h3⟩:=Ec h;have h4:=run_storeCells_at (P:=Tryz.prog) g o t C.toList 0 _ W h2 (by simpa[hn]using h3) (fun v hv=>(Array.all_eq_true_iff_forall_mem.1 (iO h1)) v (by simpa using hv));cases hq:Tryz.prog.info? T with
  |none=>rw[hq]at hi;cases hi
  |some i=>
   have hs:C.size=i.size:=by rw[hq]at hi;rw[hn];simpa using hi.symm
   simp only[Nat.add_zero,Array.length_toList]at h4;simp[storeVar,sizeOf,typeInfo,hq,Value.cells,hs,h4,dK,er]
abbrev li(T:TypeId)(n:Nat):Prop:=∀{W:World}{g o:Nat}{C:Array Value},bU W g o n=true→C.size=n→bB C=true→(sT T (H g o) (.agg C)).run Tryz.prog W= .ok .skip (dK W g o C)
theorem mG{T:TypeId}{n:Nat}(hi:(Tryz.prog.info? T).map (·.size)=some n):li T n:=fun h hn h1=>by simp only[sT,Instr.storeAt,Instr.sureAddr,Sem.run_bind,Sem.run_pure,Result.andThen_ok,xl T n hi h hn h1]
theorem dy:li 29 16:=mG A7
theorem dO:li 41 12:=mG G8
theorem dP:li 64 8:=mG fi
theorem kL:li 75 10:=mG sI
theorem cK:li 103 13:=mG cy
theorem fP:li 105 21:=mG fG
theorem mV:li 107 37:=mG CJ
theorem uj:li 198 31:=mG kr
theorem dc:li 203 28:=mG CW
theorem oQ:li 62 5:=mG sH
theorem cd:li 101 3:=mG ji
theorem bz:li 36 4:=mG pg
theorem io:li 51 24:=mG ph
theorem eZ:li 47 6:=mG dF
theorem ff:li 129 2:=mG CN
theorem jy:li 186 2:=mG wJ
theorem ui:li 143 5:=mG qJ
def bc(W:World)(g:Nat):Bool:=match W.heap[g]? with
 |some (.cells _ _ fr)=>decide (fr=(0,0))
 |_=>false
theorem iz{W:World}{g:Nat}(h:bc W g=true):∃t,W.heap[g]? =some (.cells (aH W g) t (0,0)):=by
 unfold bc at h;unfold aH;split at h;·rename_i cs t fr e;rw[e];simp only[decide_eq_true_eq]at h;subst h;exact⟨t,rfl⟩
 ·cases h
theorem lH(w:World)(C:Array Value)(t:TypeId)(g:Nat)(hg:g=w.heap.size):bc (w.alloc (.cells C t)) g=true:=by subst hg;unfold bc;rw[(MapKept.heap_alloc w _).1];rfl
theorem oh(w:World)(o:Obj)(g:Nat)(hg:g<w.heap.size):bc (w.alloc o) g=bc w g:=by unfold bc;rw[Below.heap_alloc w o g hg]
theorem og(w:World)(g:Nat):bc w.drew g=bc w g:=rfl
theorem aI{W:World}{g n:Nat}{t:TypeId}(h:aK W g t n=true):bc W g=true:=by unfold bc;rw[(bK h).1];rfl
theorem aY(W:World)(y g:Nat)(D:Array Value)(h:g≠y):(W.setRow y D).heap[g]? =W.heap[g]? :=by unfold World.setRow;simp only[Array.getElem?_modify];rw[if_neg (Ne.symm h)]
theorem cX(W:World)(y:Nat)(D:Array Value):(W.setRow y D).heap.size=W.heap.size:=by simp[World.setRow]
theorem fa{W:World}{g:Nat}(D:Array Value)(h:bc W g=true):aH (W.setRow g D) g=D:=by obtain⟨t,h⟩:=iz h;unfold aH World.setRow;simp only[Array.getElem?_modify,if_true];rw[h];rfl
theorem iX(W:World)(y g:Nat)(D:Array Value):bc (W.setRow y D) g=bc W g:=by
 by_cases h:g=y;·
  subst h;unfold bc World.setRow;simp only[Array.getElem?_modify,if_true];cases W.heap[g]? with
   |none=>rfl
   |some o=>cases o<;>rfl
 ·unfold bc;rw[aY W y g D h]
theorem gO(W:World)(y g:Nat)(D:Array Value)(h:g≠y):aH (W.setRow y D) g=aH W g:=by unfold aH;rw[aY W y g D h]
theorem fd{W:World}{g n:Nat}{t:TypeId}(D:Array Value)(h:aK W g t n=true)(hD:D.size=n):aK (W.setRow g D) g t n=true:=ip h hD
theorem gf(W:World)(y g n:Nat)(t:TypeId)(D:Array Value)(h:g≠y):aK (W.setRow y D) g t n=aK W g t n:=by unfold aK;rw[aY W y g D h]
theorem zD(W:World)(y g o k:Nat)(D:Array Value)(h:g≠y):bU (W.setRow y D) g o k=bU W g o k:=by unfold bU;rw[aY W y g D h]
theorem tr(W:World)(y:Nat)(p:Addr)(D:Array Value)(h:p.block≠y):(W.setRow y D).cell? p=W.cell? p:=World.cell?_of_block (w:=W) (aY W y p.block D h)
theorem nD(W:World)(y:Nat)(p:Addr)(D:Array Value)(h:p.block≠y):(W.setRow y D).frozen? p=W.frozen? p:=by unfold World.frozen?;rw[aY W y p.block D h]
theorem qf(W:World)(y:Nat)(p:Addr)(n:Nat)(D:Array Value)(h:p.block≠y):aR (W.setRow y D) p n=aR W p n:=(bS (aY W y p.block D h)).1
theorem qg(W:World)(y:Nat)(p:Addr)(n:Nat)(D:Array Value)(h:p.block≠y):aO (W.setRow y D) p n=aO W p n:=(bS (aY W y p.block D h)).2
/-! A block of one's own, by its row. -/
theorem gv{W:World}{g:Nat}(i:Nat)(h:bc W g=true):W.cell? ⟨g,i,none⟩=(aH W g)[i]? :=by obtain⟨t,h⟩:=iz h;exact cell_of_row W g i _ t (0,0) h
theorem iR{W:World}{g:Nat}(i:Nat)(h:bc W g=true):W.frozen? ⟨g,i,none⟩=false:=by obtain⟨t,h⟩:=iz h;unfold World.frozen?;rw[h];simp
theorem oE{W:World}{g:Nat}(i:Nat)(v:Value)(h:bc W g=true):W.setCell ⟨g,i,none⟩ v=W.setRow g ((aH W g).setIfInBounds i v):=by
 obtain⟨t,h⟩:=iz h;unfold World.setCell World.setRow;congr 1;apply Array.ext_getElem?;intro k;simp only[Array.getElem?_modify];split;·rename_i e;subst e;rw[h];rfl
 ·rfl
theorem vn{W:World}{g o n:Nat}(h:bc W g=true)(hn:o+n≤(aH W g).size):aR W ⟨g,o,none⟩ n=true∧aO W ⟨g,o,none⟩ n=(aH W g).extract o (o+n):=by have h':=fO (W:=W) (p:=⟨g,o,none⟩) (cs:=((aH W g).extract o (o+n)).toList) (n:=n) aF (fun k v hk=>by rw[cF,gv _ h];simp only[Array.toList_extract,List.extract_eq_take_drop]at hk;have h1:=(List.getElem?_eq_some_iff.1 hk).1;simp only[List.length_take,List.length_drop,Array.length_toList]at h1;rw[List.getElem?_take_of_lt aa,List.getElem?_drop]at hk;simpa using hk);rw[Array.toArray_toList]at h';exact h'
theorem jm{W:World}{g o n:Nat}(h:bc W g=true)(hn:o+n≤(aH W g).size):aR W ⟨g,o,none⟩ n=true:=(vn h hn).1
theorem jn{W:World}{g o n:Nat}(h:bc W g=true)(hn:o+n≤(aH W g).size):aO W ⟨g,o,none⟩ n=(aH W g).extract o (o+n):=(vn h hn).2
theorem oB{W:World}{g o n:Nat}(h:bc W g=true)(hn:o+n≤(aH W g).size):bU W g o n=true:=by obtain⟨t,h⟩:=iz h;unfold bU;rw[h];simp[hn]
theorem bq(W:World)(g o:Nat)(C:Array Value):dK W g o C=W.setRow g (er (aH W g) o C):=rfl
theorem Mr(W:World)(g:Nat)(D Ex:Array Value):(W.setRow g D).setRow g Ex=W.setRow g Ex:=by
 unfold World.setRow;simp only;congr 1;apply Array.ext_getElem?;intro k;simp only[Array.getElem?_modify];split;·
  cases W.heap[k]? with
   |none=>rfl
   |some o=>cases o<;>rfl
 ·rfl
theorem dJ{B:Nat}{w w1:World}(h:Below B w w1):(∀g t n,g<B→aK w1 g t n=aK w g t n)∧(∀g,g<B→aH w1 g=aH w g)∧(∀g o n,g<B→aR w1 ⟨g,o,none⟩ n=aR w ⟨g,o,none⟩ n)∧(∀g o n,g<B→aO w1 ⟨g,o,none⟩ n=aO w ⟨g,o,none⟩ n)∧(∀g o n,g<B→bU w1 g o n=bU w g o n)∧(∀g o,g<B→w1.cell? ⟨g,o,none⟩=w.cell? ⟨g,o,none⟩)∧(∀g o,g<B→w1.frozen? ⟨g,o,none⟩=w.frozen? ⟨g,o,none⟩)∧(∀g,g<B→bc w1 g=bc w g)∧w.heap.size≤w1.heap.size∧∀g,g<w.heap.size→g<w1.heap.size:=by
 refine⟨fun g t n hg=>?_,fun g hg=>?_,fun g o n hg=>?_,fun g o n hg=>?_,fun g o n hg=>?_,fun g o hg=>?_,fun g o hg=>?_,fun g hg=>?_,h.size,fun g hg=>Nat.lt_of_lt_of_le hg h.size⟩;·unfold aK;rw[h.block g hg]
 ·unfold aH;rw[h.block g hg]
 ·exact(bS (h.block g hg)).1
 ·exact(bS (h.block g hg)).2
 ·unfold bU;rw[h.block g hg]
 ·exact World.cell?_of_block (h.block g hg)
 ·unfold World.frozen?;rw[h.block g hg]
 ·unfold bc;rw[h.block g hg]
theorem bp{P:Program}{C:World→Prop}{K:Act→Prop}{o:Oper}{a:Act}{v:Value}(h:∀W,C W→o.quietAt P a C W v)(hK:K (a.put o.dst v)):o.quiet P a C K:=⟨v,h,hK⟩
def ZQ(a b:Nat)(p:Prop):Prop:=p
def PQ(p:Prop):Prop:=p
theorem pq{p:Prop}(h:p):PQ p:=h
theorem R9{a b:Nat}(h:a+5≤b):ZQ a b (a<b∧a<b+1∧¬(a=b)∧a+1<b∧a+1<b+1∧¬(a+1=b)∧a+1+1<b∧a+1+1<b+1∧¬(a+1+1=b)∧a+1+1+1<b∧a+1+1+1<b+1∧¬(a+1+1+1=b)∧a+1+1+1+1<b∧a+1+1+1+1<b+1∧¬(a+1+1+1+1=b)):=uG
theorem R8{a b:Nat}(h:a+4≤b):ZQ a b (a<b∧a<b+1∧¬(a=b)∧a+1<b∧a+1<b+1∧¬(a+1=b)∧a+1+1<b∧a+1+1<b+1∧¬(a+1+1=b)∧a+1+1+1<b∧a+1+1+1<b+1∧¬(a+1+1+1=b)∧a+1+1+1+1<b+1):=uG
theorem R7{a b:Nat}(h:a+3≤b):ZQ a b (a<b∧a<b+1∧¬(a=b)∧a+1<b∧a+1<b+1∧¬(a+1=b)∧a+1+1<b∧a+1+1<b+1∧¬(a+1+1=b)∧a+1+1+1<b+1):=uG
theorem R6{a b:Nat}(h:a+2≤b):ZQ a b (a<b∧a<b+1∧¬(a=b)∧a+1<b∧a+1<b+1∧¬(a+1=b)∧a+1+1<b+1):=uG
theorem R5{a b:Nat}(h:a+1≤b):ZQ a b (a<b∧a<b+1∧¬(a=b)∧a+1<b+1):=uG
theorem R4{a b:Nat}(h:a+0≤b):ZQ a b (a<b+1):=uG
theorem zs(a b:Nat){p:Prop}(h:ZQ a b p:=by first|exact R9 aa|exact R8 aa|exact R7 aa|exact R6 aa|exact R5 aa|exact R4 aa):p:=h
theorem PT:(∀(a:Act)(d:Tmp)(v:Value),a.put (some d) v={a with tmps:=a.tmps.setIfInBounds d v})∧(∀(a:Act)(v:Value),a.put none v=a)∧(∀(l:List Value)(i:Nat)(x:Value),l.toArray.setIfInBounds i x=(l.set i x).toArray)∧(∀(l:List Value)(a b:Value),(a::l).set 0 b=b::l)∧∀(l:List Value)(a b:Value)(n:Nat),(a::l).set (n+1) b=a::l.set n b:=⟨fun _ _ _=>rfl,fun _ _=>rfl,fun _ _ _=>List.setIfInBounds_toArray ..,fun _ _ _=>rfl,fun _ _ _ _=>rfl⟩
theorem PL:(∀L:List Oper,bX L []=[])∧(∀(L:List Oper)(i:Nat)(is:List Nat),bX L (i::is)=aU L i++bX L is)∧(∀i:Nat,aU [] i=[])∧(∀(o:Oper)(l:List Oper),aU (o::l) 0=[o])∧(∀(o:Oper)(l:List Oper)(n:Nat),aU (o::l) (n+1)=aU l n)∧(∀l:List Oper,l++[]=l)∧(∀(o:Oper)(l k:List Oper),(o::l)++k=o::(l++k))∧∀l:List Oper,[]++l=l:=⟨fun _=>rfl,fun _ _ _=>rfl,fun i=>by cases i<;>rfl,fun _ _=>rfl,fun _ _ _=>rfl,fun l=>List.append_nil l,fun _ _ _=>rfl,fun _=>rfl⟩
theorem cZ{B:Nat}{w w1:World}{p:Prop}(h:Below B w w1)(s:w.heap.size≤w1.heap.size→p:=by first|(intro hx;simp at hx;exact hx)|exact fun hx=>hx):(∀g t n,g<B→aK w1 g t n=aK w g t n)∧(∀g,g<B→aH w1 g=aH w g)∧(∀g o n,g<B→aR w1 ⟨g,o,none⟩ n=aR w ⟨g,o,none⟩ n)∧(∀g o n,g<B→aO w1 ⟨g,o,none⟩ n=aO w ⟨g,o,none⟩ n)∧(∀g o n,g<B→bU w1 g o n=bU w g o n)∧(∀g o,g<B→w1.cell? ⟨g,o,none⟩=w.cell? ⟨g,o,none⟩)∧(∀g o,g<B→w1.frozen? ⟨g,o,none⟩=w.frozen? ⟨g,o,none⟩)∧(∀g,g<B→bc w1 g=bc w g)∧p∧(∀g,g<w.heap.size→g<w1.heap.size)∧∀g,g<w.heap.size→g≤w1.heap.size:=by obtain⟨x1,x2,x3,x4,x5,x6,x7,x8,x9,x10⟩:=dJ h;exact⟨x1,x2,x3,x4,x5,x6,x7,x8,s x9,x10,fun g h=>Nat.le_of_lt (x10 g h)⟩
theorem bY{p:Prop}(h:p:=by repeat'(first|(with_reducible exact Below.refl _ _)|(with_reducible apply Below.drew)|(with_reducible refine Below.alloc ?_ ?_ _)|(with_reducible refine Below.setCell ?_ ?_ _)|(with_reducible refine ai ?_ ?_ _)|(with_reducible refine ce ?_ ?_ _ _)|(refine aw.since et ?_ ?_)|(refine aj et ?_ ?_)|(with_reducible exact Nat.le_refl _)|omega|(simp;done)|(simp;omega))):p:=h
theorem Ri{p:Prop}(h:p:=by first|omega|(simp;done)|(simp;omega)):p:=h
theorem iv{p:Prop}(h:p:=by intro W hS;have xxq:=cZ hS.out;(try have zzq:=zs w.heap.size W.heap.size);go_simp;try with_reducible rfl):p:=h
theorem jt{p:Prop}(h:p:=by intro W hS;have xxq:=QG hS;(try have zzq:=zs w.heap.size W.heap.size);go_simp;try with_reducible rfl):p:=h
theorem LX{p:Prop}(h:p:=by repeat'(first|(with_reducible exact Below.refl _ _)|(with_reducible apply Below.drew)|(with_reducible refine Below.alloc ?_ ?_ _)|(with_reducible refine Below.setCell ?_ ?_ _)|(with_reducible refine ai ?_ ?_ _)|(with_reducible refine ce ?_ ?_ _ _)|(refine aw.since et ?_ ?_)|(refine aj et ?_ ?_)|(with_reducible exact Nat.le_refl _)|omega|(simp;done)|(simp;omega)|(exact Nat.le_refl _)|(show _≤(World.alloc _ _).heap.size;simp;done))):p:=h
theorem nO{p:Prop}(h:p:=by repeat'(first|(with_reducible exact Below.refl _ _)|(with_reducible apply Below.drew)|(with_reducible refine Below.alloc ?_ ?_ _)|(with_reducible refine Below.setCell ?_ ?_ _)|(with_reducible exact Nat.le_refl _)|omega|(simp;done)|(simp;omega))):p:=h
theorem Av{p:Prop}(h:p:=by subst hWG;first|omega|(simp;done)|(simp;omega)):p:=h
theorem i6{p:Prop}(h:p:=by repeat'(first|(with_reducible exact Below.refl _ _)|(with_reducible apply Below.drew)|(with_reducible refine Below.alloc ?_ ?_ _)|(with_reducible refine Below.setCell ?_ ?_ _)|(with_reducible refine ai ?_ ?_ _)|(with_reducible refine ce ?_ ?_ _ _)|(refine aw.since et ?_ ?_)|(with_reducible exact Nat.le_refl _)|omega|(simp;done)|(simp;omega))):p:=h
theorem mN{p:Prop}(h:p:=by rw[br az,br az,br az,br az,br az,br az,br az];rfl):p:=h
theorem Aw{p:Prop}(h:p:=by repeat'(first|exact ax.refl _ _|(with_reducible apply ax.drew)|(with_reducible refine aP ?_ _)|(with_reducible refine ax.set ?_ _ _)|(with_reducible refine ax.alloc ?_ _)|exact hU7.out)):p:=h
theorem Pc{p:Prop}(h:p:=by subst hWG;repeat'(first|(with_reducible exact Below.refl _ _)|(with_reducible apply Below.drew)|(with_reducible refine Below.alloc ?_ ?_ _)|(with_reducible refine Below.setCell ?_ ?_ _)|(with_reducible exact Nat.le_refl _)|omega|(simp;done)|(simp;omega))):p:=h
theorem DT{p:Prop}(h:p:=by obtain⟨_,_,e,_⟩:=hM;simp only[Value.slice.injEq]at e;exact e.2.1):p:=h
theorem FR{p:Prop}(h:p:=by simp only[gC,List.length_map];omega):p:=h
theorem Jv{p:Prop}(h:p:=by repeat'(first|exact ax.refl _ _|(with_reducible apply ax.drew)|(with_reducible refine aP ?_ _)|(with_reducible refine ax.set ?_ _ _)|(with_reducible refine fD ?_ ?_ _)|(with_reducible refine ax.alloc ?_ _)|omega)):p:=h
theorem Jw{p:Prop}(h:p:=by first|(go_simp;done)|(go_simp;exact(lp hr hC _ _).1)):p:=h
theorem Jx{p:Prop}(h:p:=by first|(go_simp;done)|(go_simp;exact(lp hr hC _ _).2)):p:=h
theorem MR{p:Prop}(h:p:=by first|exact hU2.out|exact ax.of_below hk1.out|exact(ax.refl _ _).drew|exact ax.refl _ _):p:=h
theorem MS{p:Prop}(h:p:=by repeat'(first|exact ax.refl _ _|(with_reducible apply ax.drew)|(with_reducible refine ax.set ?_ _ _)|(with_reducible refine aP ?_ _))):p:=h
theorem Pd{p:Prop}(h:p:=by have:=(Array.getElem?_eq_some_iff.1 ho).1;simpa using this):p:=h
theorem Pf{p:Prop}(h:p:=by rw[hW.cell (p:=⟨w.heap.size,0,none⟩) (by show w.heap.size<_;omega) (by show w.heap.size≠_;omega)];exact hc1):p:=h
theorem Pg{p:Prop}(h:p:=by rw[hW.cell (p:=⟨w.heap.size+1,0,none⟩) (by show w.heap.size+1<_;omega) (by show w.heap.size+1≠_;omega)];exact hc2):p:=h
theorem Ph{p:Prop}(h:p:=by rw[hW.cell (p:=⟨w.heap.size+1+1,0,none⟩) (by show w.heap.size+1+1<_;omega) (by show w.heap.size+1+1≠_;omega)];exact hc3):p:=h
attribute[go_sem]List.cons_append List.drop_succ_cons List.drop_zero List.length_cons List.length_nil List.nil_append List.size_toArray List.take_succ_cons List.take_zero jh gL lZ nZ l4 og lH oh ij ik l5 kt jP iJ Qs Qt Qu lJ ky qQ jW bi bF bW H0 H3 gv oB iR jm jn oE mD jp il im zp mF kF iq gJ lQ kL kO mH kP nC lS tr zD nD iX qf fd gf qg fa gO cX Mr E5 E6
theorem fk{p:Prop}(h:p:=by repeat'(first|(with_reducible exact Below.refl _ _)|(with_reducible apply Below.drew)|(with_reducible refine Below.alloc ?_ ?_ _)|(with_reducible refine Below.setCell ?_ ?_ _)|(with_reducible refine ai ?_ ?_ _)|(with_reducible refine ce ?_ ?_ _ _)|(refine aw.since et ?_ ?_)|(refine aj et ?_ ?_)|(with_reducible exact Nat.le_refl _)|omega|(simp;done)|(simp;omega)|(exact Nat.le_refl _)|(show _≤(World.alloc _ _).heap.size;simp;done))):p:=h
theorem la{p:Prop}(h:p:=by intro W hS;have HBq:=Bx.mono hS.out HB.out aF;simp only[Bx,Bo]at HBq;go_simp;try with_reducible rfl):p:=h
theorem JA{p:Prop}(h:p:=by repeat'(first|(with_reducible exact Below.refl _ _)|(with_reducible apply Below.drew)|(with_reducible refine Below.alloc ?_ ?_ _)|(with_reducible refine Below.setCell ?_ ?_ _)|(with_reducible exact Nat.le_refl _)|omega|(simp;done)|(simp;omega))):p:=h
theorem nI{p:Prop}(h:p:=by intro W hS;have hBq:=Bx.mono hS.out HB.out aF;simp only[Bx,Bo]at hBq;have hEq:=HE.out W (hS.since d0 aa);go_simp;try with_reducible rfl):p:=h
theorem Ax{p:Prop}(h:p:=by intro W hS;(try have hcq:=(World.cell?_of_block (a:=⟨g2,r,none⟩) (hS.block g2 hg2 hgN1)).trans hcr);go_simp;try with_reducible rfl):p:=h
theorem Ja{p:Prop}(h:p:=by repeat'(first|exact ax.refl _ _|(with_reducible apply ax.drew)|(with_reducible refine aP ?_ _)|exact ax.of_below b3)):p:=h
theorem MX{p:Prop}(h:p:=by first|exact Kp.setRow aa|exact(Kp.setRow aa).trans (Kp.below ((Below.refl _ _).alloc (Nat.le_refl _) _))):p:=h
theorem Ff{p:Prop}(h:p:=by repeat'(first|(with_reducible exact ax.refl _ _)|(with_reducible apply ax.drew)|(with_reducible refine aP ?_ _))):p:=h
theorem xv{p:Prop}(h:p:=by intro W hS;have hBq:=Bx.upto hS HB2.out (.inr ay);simp only[Bx,Bo]at hBq;go_simp;try with_reducible rfl):p:=h
theorem Ah{p:Prop}(h:p:=by repeat'(first|exact ax.refl _ _|(with_reducible apply ax.drew)|(with_reducible refine aP ?_ _)|exact ax.of_below b5)):p:=h
theorem mO{p:Prop}(h:p:=by intro W hS;have hBq:=Bx.mono hS.out HB5.out aF;have hSq:=Bx.mono hS.out HS5.out aF;simp only[Bx,Bo]at hBq hSq;have hEqq:=HE.out W (hS.since d5 aa);go_simp;try with_reducible rfl):p:=h
theorem tO{p:Prop}(h:p:=by intro W hS;have hRq:=Bx.upto hS HR8.out (.inl aa);simp only[Bx,Bo]at hRq;go_simp;try with_reducible rfl):p:=h
theorem nP{p:Prop}(h:p:=by intro W hS;have hBq:=Bx.upto hS HB41.out (.inr ay);have hRq:=Bx.upto hS HR.out (.inl aa);simp only[Bx,Bo]at hBq hRq;go_simp;try with_reducible rfl):p:=h
theorem Jy{p:Prop}(h:p:=by(try simp only[bQ,World.size_alloc]);omega):p:=h
theorem pb{p:Prop}(h:p:=by repeat'(first|exact ax.refl _ _|(with_reducible apply ax.drew)|(with_reducible refine aP ?_ _)|exact ax.of_below b1|exact ax.of_below b2)):p:=h
theorem Jz{p:Prop}(h:p:=by repeat'(first|exact d0|exact d0.trans (kq3.mono aa)|(with_reducible refine ai ?_ ?_ _)|(with_reducible refine Below.alloc ?_ ?_ _)|omega|(rw[cX];omega))):p:=h
theorem xK{p:Prop}(h:p:=by repeat'(first|(with_reducible exact Below.refl _ _)|(with_reducible apply Below.drew)|(with_reducible refine Below.alloc ?_ ?_ _)|(with_reducible refine Below.setCell ?_ ?_ _)|(with_reducible refine ai ?_ ?_ _)|(with_reducible refine ce ?_ ?_ _ _)|(refine aw.since et ?_ ?_)|(refine aj et ?_ ?_)|(with_reducible exact Nat.le_refl _)|omega|(simp;done)|(simp;omega)|(exact Nat.le_refl _)|(show _≤(World.alloc _ _).heap.size;simp;done)|exact hb2)):p:=h
theorem rk{p:Prop}(h:p:=by intro W hS;have hBq:=Bx.mono hS.out HB6.out aF;have hRq:=Bx.mono (g:=r6) (L:=[(105,21,#[q0,q1,q2,q3,q4,q5,q6,q7,q8,q9,q10,q11,q12,q13,q14,q15,q16,q17,q18,q19,q20])]) hS.out HR6.out aF;have hSq:=Bx.mono (g:=r8) (L:=[(47,6,#[m'.inn,m'.out,E b1 n1' d1',E b2 n2' d2',E b3 m'.sh.length dS,E b4 m'.lk.length dL]),(103,13,#[v1,v2,v3,v4,v5,v6,v7,v8,v9,v10,v11,v12,v13])]) hS.out HS6.out aF;have hUq:=Bx.mono (g:=r10) (L:=[(62,5,#[b1z,b2z,b3z,b4z,b5z])]) hS.out HU6.out aF;simp only[Bx,Bo]at hBq hRq hSq hUq;have hEqq:=HE.out W (hS.since d6 aa);go_simp;try with_reducible rfl):p:=h
theorem tP{p:Prop}(h:p:=by intro W hS;have hBq:=Bx.upto hS HB83.out (.inr ay);have hRq:=Bx.upto hS HR8.out (.inl aa);simp only[Bx,Bo]at hBq hRq;go_simp;try with_reducible rfl):p:=h
theorem DV{p:Prop}(h:p:=by first|exact Nat.le_refl _|omega|(show WB.heap.size≤_;simp;done)|(show WB.heap.size≤(World.alloc _ _).heap.size;simp;done)):p:=h
theorem QI{p:Prop}(h:p:=by repeat'(first|exact Below.refl w2.heap.size w2|(with_reducible apply Below.drew)|(with_reducible refine Below.alloc ?_ (Nat.le_refl _) _))):p:=h
theorem QJ{p:Prop}(h:p:=by first|exact cY _ #[p.e.six,J p.e.hi,J p.e.lo,p.e.port,p.i,p.a,p.b,p.c,p.d,p.f] 75 10 _ ay rfl rfl|exact(cY _ #[p.e.six,J p.e.hi,J p.e.lo,p.e.port,p.i,p.a,p.b,p.c,p.d,p.f] 75 10 _ ay rfl rfl).below (Below.refl _ _).drew):p:=h
theorem QK{p:Prop}(h:p:=by rw[hta.out,List.map_append];exact(zB hLj).trans (List.Perm.append_right _ hq.out)):p:=h
theorem QL{p:Prop}(h:p:=by first|exact hb|exact((Below.refl w12q.heap.size w12q).alloc (Nat.le_refl _) _).trans (hb.mono ay)):p:=h
theorem Pj{p:Prop}(h:p:=by rw[cX];exact(d1.trans (kq15.mono d1.size)).size):p:=h
theorem DW{p:Prop}(h:p:=by first|exact Nat.le_refl _|omega|(show w1.heap.size≤_;simp;done)|(show w1.heap.size≤(World.alloc _ _).heap.size;simp;done)):p:=h
theorem FU{p:Prop}(h:p:=by intro W hS;have hBq:=Bx.mono hS.out HB8.out aF;have hRq:=Bx.mono hS.out HR8.out aF;simp only[Bx,Bo,List.getElem?_cons_succ,List.getElem?_cons_zero,List.set_cons_succ,List.set_cons_zero]at hBq hRq;go_simp;try with_reducible rfl):p:=h
theorem JB{p:Prop}(h:p:=by first|exact Nat.le_refl _|omega|(show W8.heap.size≤_;simp;done)|(show W8.heap.size≤(World.alloc _ _).heap.size;simp;done)):p:=h
theorem DX{p:Prop}(h:p:=by repeat'(first|exact ax.refl _ _|(with_reducible apply ax.drew)|(with_reducible refine aP ?_ _)|exact ax.of_below hk4.out)):p:=h
theorem FV{p:Prop}(h:p:=by intro W hS;have hBq:=Bx.mono hS.out HB1.out aF;simp only[Bx,Bo]at hBq;go_simp;try with_reducible rfl):p:=h
theorem JC{p:Prop}(h:p:=by intro W hS;have hBq:=Bx.mono (g:=w.heap.size) (L:=[(51,24,#[k1,k2,k3,k4,k5,k6,k7,k8,k9,k10,k11,k12,k13,k14,k15,k16,m'.inn,m'.out,E b1 n1' d1',E b2 n2' d2',E b3 m'.sh.length dS,E b4 m'.lk.length dL,G g4 CT.length cap4,E aG x.lg.length cG]),(51,24,#[Z,Z,Z,Z,Z,U,Z,Z,Z,Z,Z,Z,Z,Z,Z,Z,Z,Z,V,V,V,V,V,V])]) hS.out HB9.out aF;have hGq:=Bx.mono (g:=r12) (L:=[(107,37,(List.toArray (Value.int .i64 who::Value.int .i64 t.nth::q0::q1::q2::q3::q4::q5::q6::q7::q8::q9::q10::q11::q12::q13::q14::q15::q16::q17::q18::q19::q20::v1::v2::v3::v4::v5::v6::v7::v8::v9::v10::v11::v12::v13::Value.bool lb::[])))]) hS.out HG9.out aF;simp only[Bx,Bo]at hBq hGq;go_simp;try with_reducible rfl):p:=h
theorem Pk{p:Prop}(h:p:=by rintro(h|h);have:=hRl.out _ h;omega;omega):p:=h
theorem Pn{p:Prop}(h:p:=by rw[←he,hdrop];show _=qC now _ (NO now b t);rw[hidS.out]):p:=h
theorem JD{p:Prop}(h:p:=by repeat'(first|exact ax.refl _ _|(with_reducible apply ax.drew)|(with_reducible refine aP ?_ _)|exact ax.of_below b4|exact ax.of_below b5)):p:=h
theorem JE{p:Prop}(h:p:=by intro W hS;have hBq:=Bx.mono hS HB83.out ay;simp only[Bx,Bo]at hBq;go_simp;try with_reducible rfl):p:=h
theorem Po{p:Prop}(h:p:=by rw[hw1];exact aP (ax.refl _ _).drew _):p:=h
theorem Pp{p:Prop}(h:p:=by rw[hw1];exact hO9.out.same fun _ _ _=>rfl):p:=h
theorem Pq{p:Prop}(h:p:=by rw[hw1];exact ai (HU.out.trans (HK.out.mono aa)).drew aa _):p:=h
theorem JF{p:Prop}(h:p:=by have h:=hx.out;rw[List.drop_eq_nil_of_le ig]at h;exact h):p:=h
theorem Pr{p:Prop}(h:p:=by rw[hk2,hk9];simp only[List.length_cons,List.length_nil];omega):p:=h
theorem JG{p:Prop}(h:p:=by intro W hS;have hSq:=Bx.upto (g:=r8) (L:=[(47,6,#[m'.inn,m'.out,E b1 n1' d1',E b2 n2' d2',E b3 m'.sh.length dS,E b4 m'.lk.length dL])]) hS HS7.out (.inl aa);simp only[Bx,Bo]at hSq;go_simp;try with_reducible rfl):p:=h
theorem QM{p:Prop}(h:p:=by rw[hpk,hwq];exact List.getElem?_eq_getElem hr):p:=h
theorem QN{p:Prop}(h:p:=by rintro(h|h);exact h.2.1 rfl;(try simp only[bQ]at h);omega):p:=h
theorem QO{p:Prop}(h:p:=by rcases h with h|h;exact h;exact⟨.inr F0,F0,F0⟩):p:=h
theorem Ps{p:Prop}(h:p:=by repeat'(first|(with_reducible exact Below.refl _ _)|(with_reducible apply Below.drew)|(with_reducible refine Below.alloc ?_ ?_ _)|(with_reducible refine Below.setCell ?_ ?_ _)|(with_reducible refine ai ?_ ?_ _)|(with_reducible refine ce ?_ ?_ _ _)|(refine aw.since et ?_ ?_)|(refine aj et ?_ ?_)|(with_reducible exact Nat.le_refl _)|omega|(simp;done)|(simp;omega)|(exact Nat.le_refl _)|(show _≤(World.alloc _ _).heap.size;simp;done)|exact(aj hb (FO _ _ _) ay))):p:=h
theorem Pu{p:Prop}(h:p:=by rw[hzk.out];intro x hx;rcases List.mem_append.1 hx with h|h;exact hq.out x h;simp only[List.mem_singleton]at h;subst h;exact hr1.out):p:=h
theorem MT{p:Prop}(h:p:=by rw[hk];simp only[bW,bi,bF,hko,Bool.and_self]):p:=h
theorem MU{p:Prop}(h:p:=by rw[List.length_append,e3,hk2];simp only[List.length_singleton];omega):p:=h
theorem MV{p:Prop}(h:p:=by rw[hk1,hk3];simp only[cO,fc,List.length_append,List.length_cons,List.length_nil];omega):p:=h
theorem MW{p:Prop}(h:p:=by first|exact Nat.le_refl _|omega|(show W5.heap.size≤_;simp;done)|(show W5.heap.size≤(World.alloc _ _).heap.size;simp;done)):p:=h
theorem Pv{p:Prop}(h:p:=by repeat'(first|exact d1|(with_reducible refine ai ?_ ?_ _)|(with_reducible refine Below.alloc ?_ ?_ _)|omega)):p:=h
theorem Pw{p:Prop}(h:p:=by repeat'(first|(with_reducible exact Below.refl _ _)|(with_reducible apply Below.drew)|(with_reducible refine ai ?_ ?_ _)|exact b4.mono aa|omega)):p:=h
theorem QP{p:Prop}(h:p:=by rw[htk.out];intro z hz;rcases List.mem_append.1 hz with h|h;exact hx.out z h;simp only[List.mem_singleton]at h;subst h;exact c.out):p:=h
theorem Px{p:Prop}(h:p:=by first|exact cY w2 #[v1,v2,v3,v4,v5,v6,v7,v8,v9,v10,v11,v12,v13] 103 13 _ rfl rfl hv1|exact(IF (cY w1 #[v1,v2,v3,v4,v5,v6,v7,v8,v9,v10,v11,v12,v13] 103 13 _ rfl rfl hv1)).below hk2.out):p:=h
theorem QQ{p:Prop}(h:p:=by first|exact cY w7 #[q21,q22,q23,q24,q25,q26,q27,q28] 64 8 _ rfl rfl hr8|exact(IF (cY W8 #[q21,q22,q23,q24,q25,q26,q27,q28] 64 8 _ rfl rfl hr8)).below hk7.out):p:=h
theorem Py{p:Prop}(h:p:=by repeat'(first|exact d0|(with_reducible refine ai ?_ ?_ _)|exact d0.trans (b1.mono aa)|exact d0.trans (b2.mono aa)|omega)):p:=h
theorem PB{p:Prop}(h:p:=by simp only[cO];rw[show cx m (fc m S++[dI 2 0 0])=m from by rw[bP,kN];rfl];exact hF.t):p:=h
end Go.Proofs.YtnncjbkepakgpaaGreat
