/- A STORY THAT CAME IN, opened. WHO IS LEFT. NOBODY IS TO GO. TAPE: A PART IS READ. THE LIST WITH ONE MORE. -/
import Derived.Test.YtnncjbkepakgpaaGreatA43
import Derived.OpenShut
namespace Go.Proofs.YtnncjbkepakgpaaGreat
open Go.RowKit Qv
set_option linter.unusedVariables false
set_option linter.unusedSimpArgs false
set_option maxRecDepth 100000
set_option maxHeartbeats 4000000
section
open Go.ChangeShapes Go.WideShapes Go.ChangeAt Go.RowKit
inductive kY where
 |int(k:IntKind)
 |bool
 |sl(t:TypeId)
def kY.ok(T:TypeId→Value→Prop):kY→Value→Prop
 | .int k,v=>∃n,v= .int k n∧(Lit.int k n).wf=true
 | .bool,v=>∃b,v= .bool b
 | .sl t,v=>T t v
def nh(T:TypeId→Value→Prop):List kY→List Value→Prop
 |[],[]=>True
 |l::ls,v::vs=>l.ok T v∧nh T ls vs
 |_,_=>False
section
variable{T:TypeId→Value→Prop}
theorem sg:∀{a b:List kY}{x y:List Value},nh T a x→nh T b y→nh T (a++b) (x++y)
 |[],_,[],_,_,h=>h
 |_::_,_,_::_,_,h,h'=>⟨h.1,sg h.2 h'⟩
 |[],_,_::_,_,h,_=>h.elim
 |_::_,_,[],_,h,_=>h.elim
theorem eG:∀{a:List kY}{x:List Value},nh T a x→x.length=a.length
 |[],[],_=>rfl
 |_::_,_::_,h=>by simp[eG h.2]
 |[],_::_,h=>h.elim
 |_::_,[],h=>h.elim
end
def gR(P:Program)(sub:TypeId→Option (List kY)):Nat→List Field→Option (List kY)
 |_,[]=>some []
 |o,f::fs=>(sub f.type).bind fun l=>if f.offset=o∧P.cellsOf f.type=l.length then(gR P sub (o+l.length) fs).map (l++·)else none
def jS(P:Program):Nat→TypeId→Option (List kY)
 |0,_=>none
 |f+1,t=>match P.underlying t with
  |some .bool=>some [.bool]
  |some (.int k)=>some [.int k]
  |some (.struct fs)=>(gR P (jS P f) 0 fs.toList).bind fun l=>if P.cellsOf t=l.length then some l else none
  |some (.slice _)=>some [.sl t]
  |_=>none
section
variable{Hx:Type}{enc:TypeId×Value→Hx}{P:Program}{w:World}{base:Nat}{spare:Nat→Bool}{held:Bool}
def Tr(enc:TypeId×Value→Hx)(P:Program)(w:World)(base:Nat)(spare:Nat→Bool)(held:Bool)(t:TypeId)(v:Value):Prop:=∃n x,DataW.trod enc P w base spare held n t [v]=some x
theorem kU{T:TypeId→Value→Prop}{sub:TypeId→Option (List kY)}(hsub:∀t l n cs x,sub t=some l→DataW.trod enc P w base spare held n t cs=some x→nh T l cs){n:Nat}{cs:List Value}:∀(fs:List Field)(o:Nat)(l:List kY),gR P sub o fs=some l→cs.length=o+l.length→(∀f∈fs,∃x,DataW.trod enc P w base spare held n f.type ((cs.drop f.offset).take (P.cellsOf f.type))=some x)→nh T l (cs.drop o)
 |[],o,l,h,hlen,_=>by simp[gR]at h;subst h;rw[List.drop_of_length_le (by simp at hlen;omega)];trivial
 |f::fs,o,l,h,hlen,hall=>by
  simp only[gR,Option.bind_eq_some_iff]at h;obtain⟨a,ha,h⟩:=h;split at h;·rename_i hc;obtain⟨ho,hn⟩:=hc;simp only[Option.map_eq_some_iff]at h;obtain⟨b,hb,rfl⟩:=h;obtain⟨x,hx⟩:=hall f ay;have h1:=hsub _ _ _ _ _ ha hx;have h2:=kU hsub fs (o+a.length) b hb (by simp at hlen;omega) (fun g hg=>hall g (by simp[hg]));have:=sg h1 h2;rw[ho,hn]at this;rwa[show(cs.drop o).take a.length++cs.drop (o+a.length)=cs.drop o by rw[←List.drop_drop,List.take_append_drop]]at this
  ·cases h
theorem ns:∀(f:Nat)(t:TypeId)(l:List kY)(n:Nat)(cs:List Value)(x:DataW Hx×List MemPlace),jS P f t=some l→DataW.trod enc P w base spare held n t cs=some x→nh (Tr enc P w base spare held) l cs
 |0,_,_,_,_,_,h,_=>by simp[jS]at h
 |f+1,t,l,n,cs,x,h,hx=>by
  unfold jS at h;split at h;·rename_i ht;simp at h;subst h;obtain⟨b,rfl,_⟩:=DataW.trod_bool ht hx;exact⟨⟨b,rfl⟩,trivial⟩
  ·rename_i k ht;simp at h;subst h;obtain⟨m,rfl,_,hw⟩:=DataW.trod_int ht hx;exact⟨⟨m,rfl,hw⟩,trivial⟩
  ·rename_i fs ht;simp only[Option.bind_eq_some_iff]at h;obtain⟨a,ha,h⟩:=h;split at h;·simp at h;subst h;obtain⟨xs,m,_,_,hlen,hxs,hf⟩:=DataW.trod_struct ht hx;have:=kU (cs:=cs) (n:=m) (fun t l n cs x=>ns f t l n cs x) fs.toList 0 a ha aa (fun g hg=>by obtain⟨i,hi,rfl⟩:=List.getElem_of_mem hg;have hi':i<fs.size:=lw;have e:=hf i fs[i] (by simp[hi']);rw[List.getElem?_eq_getElem aa]at e;exact⟨_,by simpa using e⟩);simpa using this
   ·cases h
  ·rename_i e ht;simp at h;subst h;have⟨v,hv⟩:∃v,cs=[v]:=by
    rcases Go.Deep.open_slice ht hx with⟨rfl,_⟩|⟨a,len,cap,m,n,D,Pl,rfl,_⟩;·exact⟨_,rfl⟩
    ·exact⟨_,rfl⟩
   subst hv;exact⟨⟨n,x,hx⟩,trivial⟩
  ·cases h
theorem wL{α:Type}{p:Nat→α→Prop}:∀{n:Nat},(∀i,i<n→∃x,p i x)→∃L:List α,L.length=n∧∀i x,L[i]? =some x→p i x
 |0,_=>⟨[],rfl,fun i x h=>by simp at h⟩
 |n+1,h=>by
  obtain⟨L,h1,h2⟩:=wL (n:=n) fun i hi=>h i aa;obtain⟨y,hy⟩:=h n aa;refine⟨L++[y],by simp[h1],fun i x hx=>?_⟩;rw[List.getElem?_append]at hx;split at hx;·exact h2 i x hx
  ·rename_i hi;have:i=n:=by have:=(List.getElem?_eq_some_iff.1 hx).1;simp at this;omega
   subst this;rw[h1,Nat.sub_self]at hx;cases hx;exact hy
theorem Dd{α:Type}{t e:TypeId}{v:Value}{f n:Nat}{l:List kY}(C:α→Array Value)(good:α→Prop)(ht:P.underlying t=some (.slice e))(hl:jS P f e=some l)(hC:P.cellsOf e=l.length)(hn:l.length=n)(hn0:0<n)(h1:∀x,bB (C x)=true)(dec:∀cs,nh (Tr enc P w base spare held) l cs→∃x,cs.toArray=C x∧good x)(h:Tr enc P w base spare held t v):∃(a:Option Addr)(len cap:Nat)(L:List α),v= .slice a len cap∧L.length=len∧len≤cap∧cap≤maxLen∧(∀x∈L,good x)∧((a=none∧L=[])∨∃b,a=some b∧(b.spot=none→b.block<w.heap.size→Sl w v n (L.map C))∧(L≠[]→b.spot=none∧b.block<w.heap.size)):=by
 obtain⟨fuel,x,hf⟩:=h;rcases Go.Deep.open_slice ht hf with⟨h0,_⟩|⟨b,len,cap,m,k,D,Pl,hcs,_,hlc,hm,hmm,_,hi⟩;·simp at h0;subst h0;exact⟨none,0,0,[],rfl,rfl,Nat.le_refl _,Nat.zero_le _,ay,.inl ⟨rfl,rfl⟩⟩
 ·simp at hcs;subst hcs;have hrow:∀i,i<len→∃x:α,good x∧(C x).size=n∧∀q u,(C x)[q]? =some u→w.cell? (b.add (i*n+q))=some u:=by intro i hil;obtain⟨cs',hc,ht'⟩:=hi i (by rw[hmm];split<;>omega);rw[hC]at hc;obtain⟨_,hcl,hat⟩:=World.cells?_some hc;have hfit:=ns f e l k cs' _ hl ht';obtain⟨x,hx,hg⟩:=dec cs' hfit;refine⟨x,hg,by rw[←hx];simp[eG hfit,hn],fun q u hq=>?_⟩;rw[←hx]at hq;simp at hq;have hql:q<cs'.length:=(List.getElem?_eq_some_iff.1 hq).1;have:=hat q (by rw[eG hfit]at hql;exact hql);rw[hq]at this;rw[←this,Go.Deep.add_add,hn]
  obtain⟨L,hL,hp⟩:=wL hrow;refine⟨some b,len,cap,L,rfl,hL,hlc,hm,fun x hx=>?_,.inr ⟨b,rfl,fun hs hb=>?_,fun hne=>?_⟩⟩;·obtain⟨i,hi⟩:=List.mem_iff_getElem?.1 hx;exact(hp i x hi).1
  ·obtain⟨g,o,sp⟩:=b;obtain rfl:sp=none:=hs;refine⟨_,cap,by rw[List.length_map,hL],by rw[List.length_map,hL];exact hlc,hm,.inr ⟨g,o,rfl,hb,fun i D hD=>?_⟩⟩;rw[List.getElem?_map]at hD;obtain⟨x,hx,rfl⟩:=Option.map_eq_some_iff.1 hD;obtain⟨-,h3,h4⟩:=hp i x hx;have hr:=fO (W:=w) (p:=⟨g,o+i*n,none⟩) (cs:=(C x).toList) (n:=n) xV (fun q u hq=>by have:=h4 q u (by simpa using hq);rw[cF]at this⊢;rwa[show o+i*n+q=o+(i*n+q)by omega]);exact⟨hb,hr.1,by rw[hr.2],h1 x⟩
  ·cases hL':L with
    |nil=>exact absurd hL' hne
    |cons y r=>
     obtain⟨-,h3,h4⟩:=hp 0 y (by rw[hL'];rfl);have hc:=h4 0 _ (Array.getElem?_eq_getElem aa);obtain⟨_,_,_,_,hsp⟩:=World.shape?_of_cell? hc;obtain⟨g,o,sp⟩:=b;cases sp with
      |some s=>exact absurd hsp (by simp[Addr.add])
      |none=>exact⟨rfl,by have:=JK hc;simpa[cF]using this⟩
theorem Ly{P:Program}{W:World}{b0:Nat}{u e:TypeId}{b:Addr}{len cap:Nat}(hu:P.underlying u=some (.slice e))(h:Cell.okWide P W .any b0 u (E (some b) len cap)):b.spot=none∧b.block<W.heap.size:=by
 unfold Cell.okWide Cell.ok at h;rw[hu]at h;obtain⟨-,-,-,h1,row,cells,h2,-⟩:=h;refine⟨h1,?_⟩;unfold World.shape? at h2;rcases Nat.lt_or_ge b.block W.heap.size with hb|hb;·exact hb
 ·rw[Array.getElem?_eq_none hb]at h2;cases h2
theorem nF{n:Int}(h:(Lit.int .u64 n).wf=true):U6 n:=by have:=bounds_u64 h;exact⟨this.1,aa⟩
def Pb:List kY:=[.bool,.int .u64,.int .u64,.int .i64,.int .i64]
def PJ:List kY:=[.bool,.int .u64,.int .u64,.int .i64,.int .i64,.int .i64,.int .i64]
def Rs:List kY:=[.bool,.int .u64,.int .u64,.int .i64,.bool,.int .i64,.int .i64,.int .i64,.int .i64,.int .i64]
def Rj:List kY:=[.int .i64,.bool,.int .u64,.int .u64,.int .i64,.bool,.int .u64,.int .u64,.int .i64,.int .i64,.int .i64,.bool]
def Rz:List kY:=[.int .i64,.int .i64,.int .i64,.int .i64,.int .i64,.int .u64,.int .i64,.int .i64,.int .i64,.int .i64,.int .i64,.int .i64,.int .i64,.int .i64,.int .i64,.int .i64]
section
variable{T:TypeId→Value→Prop}{cs:List Value}
theorem Ju(h:nh T Pb cs):∃y:Nt×Int,cs.toArray=di y∧Fm y:=by
 match cs,eG h,h with
  |[v0,v1,v2,v3,v4],_,h=>obtain⟨⟨a,rfl⟩,⟨b,rfl,hb⟩,⟨c,rfl,hc⟩,⟨d,rfl,-⟩,⟨e,rfl,-⟩,-⟩:=h;exact⟨(⟨a,b,c,d⟩,e),rfl,nF hb,nF hc⟩
theorem Kg(h:nh T PJ cs):∃y:En,cs.toArray=bh y∧LJ y:=by
 match cs,eG h,h with
  |[v0,v1,v2,v3,v4,v5,v6],_,h=>obtain⟨⟨a,rfl⟩,⟨b,rfl,hb⟩,⟨c,rfl,hc⟩,⟨d,rfl,-⟩,⟨e,rfl,-⟩,⟨f,rfl,-⟩,⟨g,rfl,-⟩,-⟩:=h;exact⟨⟨⟨a,b,c,d⟩,e,f,g⟩,rfl,nF hb,nF hc⟩
theorem N5(h:nh T Rs cs):∃y:Pe,cs.toArray=eT y∧LN y:=by
 match cs,eG h,h with
  |[v0,v1,v2,v3,v4,v5,v6,v7,v8,v9],_,h=>obtain⟨⟨a,rfl⟩,⟨b,rfl,hb⟩,⟨c,rfl,hc⟩,⟨d,rfl,-⟩,⟨e,rfl⟩,⟨f,rfl,-⟩,⟨g,rfl,-⟩,⟨i,rfl,-⟩,⟨j,rfl,-⟩,⟨k,rfl,-⟩,-⟩:=h;exact⟨⟨⟨a,b,c,d⟩,e,f,g,i,j,k⟩,rfl,nF hb,nF hc⟩
theorem M5(h:nh T Rj cs):∃y:Int×Ca,cs.toArray=Jc y∧True:=by
 match cs,eG h,h with
  |[v0,v1,v2,v3,v4,v5,v6,v7,v8,v9,v10,v11],_,h=>obtain⟨⟨q,rfl,-⟩,⟨a,rfl⟩,⟨b,rfl,-⟩,⟨c,rfl,-⟩,⟨d,rfl,-⟩,⟨e,rfl⟩,⟨f,rfl,-⟩,⟨g,rfl,-⟩,⟨i,rfl,-⟩,⟨j,rfl,-⟩,⟨k,rfl,-⟩,⟨m,rfl⟩,-⟩:=h;exact⟨(q,⟨a,b,c,d,e,f,g,i,j,k,m⟩),rfl,trivial⟩
theorem Ox(h:nh T (Rz++[.sl 42,.sl 43,.sl 55,.sl 31,.sl 23]) cs):∃(c:Cv)(v1 v2 v3 v4 v5:Value),cs.toArray=ld c++#[v1,v2,v3,v4,v5]∧U6 c.sec∧T 42 v1∧T 43 v2∧T 55 v3∧T 31 v4∧T 23 v5:=by
 match cs,eG h,h with
  |[v0,v1,v2,v3,v4,v5,v6,v7,v8,v9,v10,v11,v12,v13,v14,v15,v16,v17,v18,v19,v20],_,h=>obtain⟨⟨c0,rfl,-⟩,⟨c1,rfl,-⟩,⟨c2,rfl,-⟩,⟨c3,rfl,-⟩,⟨c4,rfl,-⟩,⟨c5,rfl,hc5⟩,⟨c6,rfl,-⟩,⟨c7,rfl,-⟩,⟨c8,rfl,-⟩,⟨c9,rfl,-⟩,⟨c10,rfl,-⟩,⟨c11,rfl,-⟩,⟨c12,rfl,-⟩,⟨c13,rfl,-⟩,⟨c14,rfl,-⟩,⟨c15,rfl,-⟩,h1,h2,h3,h4,h5,-⟩:=h;exact⟨⟨c0,c1,c2,c3,c4,c5,c6,c7,c8,c9,c10,c11,c12,c13,c14,c15⟩,_,_,_,_,_,rfl,nF hc5,h1,h2,h3,h4,h5⟩
end
theorem lL{Hx:Type}{enc:TypeId×Value→Hx}{w:World}{base b0:Nat}{spare:Nat→Bool}{held:Bool}{α:Type}{t e:TypeId}{v:Value}{f n:Nat}{l:List kY}(C:α→Array Value)(good:α→Prop)(ht:Tryz.prog.underlying t=some (.slice e))(hl:jS Tryz.prog f e=some l)(hC:Tryz.prog.cellsOf e=l.length)(hn:l.length=n)(hn0:0<n)(h1:∀x,bB (C x)=true)(dec:∀cs,nh (Tr enc Tryz.prog w base spare held) l cs→∃x,cs.toArray=C x∧good x)(h:Tr enc Tryz.prog w base spare held t v)(hk:Cell.okWide Tryz.prog w .any b0 t v):∃(N:Option (List (Array Value)))(L:List α),N.getD []=L.map C∧(∀x∈L,good x)∧So (fun _=>True) w v n N∧Sl w v n (L.map C):=by
 obtain⟨a,len,cap,L,rfl,h2,h3,h4,h5,h6⟩:=Dd C good ht hl hC hn hn0 h1 dec h;rcases h6 with⟨rfl,rfl⟩|⟨b,rfl,h6,-⟩;·
  subst h2;obtain⟨fuel,x,hf⟩:=h;rcases Go.Deep.open_slice ht hf with⟨h0,_⟩|⟨_,_,_,_,_,_,_,h0,_⟩;·simp at h0;subst h0;exact⟨none,[],rfl,ay,rfl,Sl.nil _ _⟩
  ·simp at h0
 ·obtain⟨k1,k2⟩:=Ly ht hk;have:=h6 k1 k2;exact⟨some (L.map C),L,rfl,h5,⟨this,fun _ _=>trivial⟩,this⟩
theorem D3{Hx:Type}{enc:TypeId×Value→Hx}{w:World}{base:Nat}{spare:Nat→Bool}{held:Bool}{v:Value}(h:Tr enc Tryz.prog w base spare held 32 v):∃l:List (Int×Ca),Fc w v 12 (l.map Jc):=by
 obtain⟨a,len,cap,L,rfl,h2,h3,h4,h5,h6⟩:=Dd (f:=5) (n:=12) (l:=Rj) Jc (fun _=>True) Tryz.underlying32 af af rfl az (fun _=>rfl) (fun cs h=>M5 h) h;refine⟨L,a,cap,by rw[List.length_map,h2],fun hne=>?_⟩;have hL:L≠[]:=fun e=>hne ro;rcases h6 with⟨-,e⟩|⟨b,-,h6,h7⟩;·exact absurd e hL
 ·exact h6 (h7 hL).1 (h7 hL).2
theorem Bi{P:Program}{W:World}{r:Reach}{b0:Nat}{t:TypeId}{fs:Array Field}{v:Value}(ht:P.underlying t=some (.struct fs))(hv:Value.okWide P W r b0 t v):∃cs,v= .agg cs∧cs.size=P.cellsOf t∧Row.okWide P W r b0 t cs:=by unfold Value.okWide at hv;rw[ht]at hv;exact hv
theorem E1(HA:∀w,Calls Tryz.prog 5 #[] w fun e w'=>e= .returned Y∧Below w.heap.size w w'){Hx:Type}{enc:TypeId×Value→Hx}{W:World}{base b0:Nat}{spare:Nat→Bool}{held:Bool}{v:Value}{d:DataW Hx}{p:List MemPlace}(hv:Value.okWide Tryz.prog W .any b0 69 v)(h:DataW.Trod enc Tryz.prog W base spare held 69 v d p):Calls Tryz.prog 4 #[v] W fun e W'=>e= .returned Y∧Below W.heap.size W W':=by
 obtain⟨cs,rfl,-,ts,hts,-,hcell⟩:=Bi Tryz.underlying69 hv;rw[show Tryz.prog.cellTypes Tryz.prog.depth 69=some [3,3,3,3,3,25,3,3,3,3,3,3,3,3,3,3,42,43,55,31,23]by kernel_rfl]at hts;cases hts;obtain⟨n,hn⟩:=h;obtain⟨c,v1,v2,v3,v4,v5,hcs,hsec,t1,t2,t3,t4,t5⟩:=Ox (ns 5 69 _ n _ _ af hn);have hcs':cs=ld c++#[v1,v2,v3,v4,v5]:=by rw[←hcs];simp[Value.cells]
 subst hcs';have k1:Cell.okWide Tryz.prog W .any b0 42 v1:=by obtain⟨u,hu,hk⟩:=hcell 16 v1 rfl;cases hu;exact hk
 have k2:Cell.okWide Tryz.prog W .any b0 43 v2:=by obtain⟨u,hu,hk⟩:=hcell 17 v2 rfl;cases hu;exact hk
 have k3:Cell.okWide Tryz.prog W .any b0 55 v3:=by obtain⟨u,hu,hk⟩:=hcell 18 v3 rfl;cases hu;exact hk
 have k4:Cell.okWide Tryz.prog W .any b0 31 v4:=by obtain⟨u,hu,hk⟩:=hcell 19 v4 rfl;cases hu;exact hk
 have k5:Cell.okWide Tryz.prog W .any b0 23 v5:=by obtain⟨u,hu,hk⟩:=hcell 20 v5 rfl;cases hu;exact hk
 obtain⟨N,Nn,hN,hNU,hb,-⟩:=lL (f:=5) (n:=5) (l:=Pb) di Fm Tryz.underlying42 af af rfl az (fun _=>rfl) (fun cs h=>Ju h) t1 k1;obtain⟨L,Le,hL,hLU,hk,-⟩:=lL (f:=5) (n:=7) (l:=PJ) bh LJ Tryz.underlying43 af af rfl az (fun _=>rfl) (fun cs h=>Kg h) t2 k2;obtain⟨-,P,-,hPU,-,hp⟩:=lL (f:=5) (n:=10) (l:=Rs) eT LN Tryz.underlying55 af af rfl az (fun _=>rfl) (fun cs h=>N5 h) t3 k3;obtain⟨-,vs,-,hvs,-,hc⟩:=lL (α:={v:Value//v.oneCell'=true}) (f:=5) (n:=1) (l:=[.sl 32]) (fun v=>#[v.1]) (fun v=>∃l:List (Int×Ca),Fc W v.1 12 (l.map Jc)) Tryz.underlying31 af af rfl az (fun v=>by simp only[bW,bi,bF,v.2,Bool.and_self]) (fun cs h=>by
  match cs,eG h,h with
   |[v],_,h=>obtain⟨l,hl⟩:=D3 h.1;exact⟨⟨v,by obtain⟨a,c,rfl,-⟩:=hl;rfl⟩,rfl,l,hl⟩) t4 k4;obtain⟨-,zs,-,hzs,-,hz⟩:=lL (f:=5) (n:=1) (l:=[.int .i64]) (fun z:Int=>#[I z]) (fun z=>-9223372036854775808≤z∧z≤9223372036854775807) Tryz.underlying23 af af rfl az (fun _=>rfl) (fun cs h=>by
  match cs,eG h,h with
   |[v],_,h=>obtain⟨⟨z,rfl,hz⟩,-⟩:=h;exact⟨z,rfl,bounds_i64 hz⟩) t5 k5;obtain⟨kl,hkl,hkp⟩:=wL (n:=vs.length) (p:=fun i(l:List (Int×Ca))=>∀x,vs[i]? =some x→Fc W x.1 12 (l.map Jc)) fun i hi=>by obtain⟨l,hl⟩:=hvs _ (List.getElem_mem hi);exact⟨l,fun x hx=>by rw[List.getElem?_eq_getElem hi]at hx;cases hx;exact hl⟩
 have he:i5 qZ W (vs.map fun v=>#[v.1]) (jU kl):=by refine⟨by rw[List.length_map,jU,List.length_map,hkl],fun i C l hC hl=>?_⟩;rw[List.getElem?_map]at hC;obtain⟨x,hx,rfl⟩:=Option.map_eq_some_iff.1 hC;unfold jU at hl;rw[List.getElem?_map]at hl;obtain⟨q,hq,rfl⟩:=Option.map_eq_some_iff.1 hl;exact⟨x.1,rfl,hkp i q hq x hx⟩
 have hq:=Fp.of hz;obtain⟨aq,cq,rfl,-⟩:=id hz;exact NS HA c N L Nn Le P hNU hLU hPU hsec hN hL kl _ zs hzs aq _ cq (by rw[List.length_map]) v1 v2 v3 v4 W hb hk hp hc he hq
end
end
section
attribute[local go_sem↓]aZ aW
attribute[local go_sem]dC bq
theorem bJ{p:Prop}(h:p:=by obtain⟨x1,x2,x3,x4,x5,x6,x7,x8,x9,x10,y9⟩:=cZ hS.out;(try have zz:=zs w.heap.size W.heap.size);go_simp;try with_reducible rfl):p:=h
theorem mJ{p:Prop}(h:p:=by obtain⟨x1,x2,x3,x4,x5,x6,x7,x8,x9,x10,y9⟩:=cZ hS.out;(try have zz:=zs w.heap.size W.heap.size);go_simp;try first|with_reducible rfl):p:=h
theorem Ku:(Tryz.prog.info? 406).map (·.size)=some 8:=af
theorem MF(w:World):(isAgg 406).run Tryz.prog w= .ok true w:=by unfold isAgg;rw[Sem.run_bind,run_underlying Tryz.underlying406 w];rfl
theorem G7:(Tryz.prog.info? 27).map (·.size)=some 4:=af
theorem E4(w:World):Calls Tryz.prog 319 #[.agg (#[I 1,I 1,I 1,I 64])] w fun e w'=>e= .returned (.agg (#[I 1,I 1,I 2,I 1,I 3,I 1,I 4,I 64]))∧Below w.heap.size w w':=by go_enter Tryz.func319,Tryz.ntmps319;go_wp2;exact bodyPost_ret (v:=.agg _) (aN (t:=406) Tryz.results319 _ _ _ rfl dq dq Ku MF) rfl ⟨rfl,bY⟩
theorem RO(w:World):(Instr.index 406 (.agg #[I 1,I 1,I 2,I 1,I 3,I 1,I 4,I 64]) Z).run Tryz.prog w= .ok (.agg #[I 1,I 1]) w:=af
theorem RP(w:World):(Instr.index 406 (.agg #[I 1,I 1,I 2,I 1,I 3,I 1,I 4,I 64]) (I 1)).run Tryz.prog w= .ok (.agg #[I 2,I 1]) w:=af
theorem RQ(w:World):(Instr.index 406 (.agg #[I 1,I 1,I 2,I 1,I 3,I 1,I 4,I 64]) (I 2)).run Tryz.prog w= .ok (.agg #[I 3,I 1]) w:=af
theorem RR(w:World):(Instr.index 406 (.agg #[I 1,I 1,I 2,I 1,I 3,I 1,I 4,I 64]) (I 3)).run Tryz.prog w= .ok (.agg #[I 4,I 64]) w:=af
attribute[local go_sem]RO RP RQ RR
def mU(n k:Nat):List Value:=(List.range n).map fun j=>I (if j<k then(j:Int)else 0)
theorem GG{n k:Nat}(hk:k<n):(mU n k).set k (I (k:Int))=mU n (k+1):=by
 unfold mU;apply List.ext_getElem?;intro j;rw[List.getElem?_set];by_cases e:k=j;·subst e;simp[hk]
 ·rw[if_neg e];by_cases hj:j<n;·
   simp only[List.getElem?_map,List.getElem?_range hj,Option.map_some,Option.some.injEq,Value.int.injEq,true_and];by_cases h1:j<k;·rw[if_pos h1,if_pos aa]
   ·rw[if_neg h1,if_neg aa]
  ·simp[hj]
theorem Eb(n:Nat):List.replicate n (Value.int .i64 0)=mU n 0:=by unfold mU;apply List.ext_getElem?;intro j;simp only[List.getElem?_replicate,List.getElem?_map];by_cases hj:j<n<;>simp[hj]
theorem GF(n:Nat):mU n n=(List.range n).map Hc:=by unfold mU;apply List.map_congr_left;intro j hj;rw[if_pos (List.mem_range.1 hj)];rfl
theorem Hg(P:List Nat)(v:Value)(w:World)(hs:Sl w v 10 (P.map aJ))(hl:P.length≤19):Calls Tryz.prog 303 #[v,.agg (#[I 1,I 1,I 1,I 64]),J 1] w fun e w'=>∃v',e= .returned v'∧Sl w' v' 1 (([]:List Nat).map fw)∧Below w.heap.size w w':=by
 obtain⟨a,cap,rfl,q1,q2,q3⟩:=hs;have HSv:Hid (Sl w (E a (P.map aJ).length cap) 10 (P.map aJ)):=Lib.hid ⟨a,cap,rfl,q1,q2,q3⟩;rw[List.length_map]at q1 HSv⊢;clear q3;have hmk:=run_make_row' (P:=Tryz.prog) 23 3 Z 8 Tryz.underlying23 NP rfl .i64 .i64 P.length aa aa (w.alloc (.cells (#[I 1,I 1,I 1,I 64]) 27));have hmade:=Lib.hid (gg.made (w.alloc (.cells (#[I 1,I 1,I 1,I 64]) 27)) Z P.length 3);rw[Eb]at hmade;have hbm:=Lib.hid (((Below.refl w.heap.size w).alloc (Nat.le_refl _) (.cells (#[I 1,I 1,I 1,I 64]) 27)).alloc ay (.cells (madeCells #[Z] P.length) 3));have hn0:0≤(P.length:Int):=aa;have hgs:(w.alloc (.cells (#[I 1,I 1,I 1,I 64]) 27)).heap.size=w.heap.size+1:=ay;rw[hgs]at hmade hmk;have hqb:Hid (aK ((w.alloc (.cells (#[I 1,I 1,I 1,I 64]) 27)).alloc (.cells (madeCells #[Z] P.length) 3)) w.heap.size 27 4=true∧aH ((w.alloc (.cells (#[I 1,I 1,I 1,I 64]) 27)).alloc (.cells (madeCells #[Z] P.length) 3)) w.heap.size=(#[I 1,I 1,I 1,I 64]:AV)):=Lib.hid ⟨dq,dq⟩;have hsz2:((w.alloc (.cells (#[I 1,I 1,I 1,I 64]) 27)).alloc (.cells (madeCells #[Z] P.length) 3)).heap.size=w.heap.size+2:=ay;go_enter Tryz.func303,Tryz.ntmps303;go_wp2;clear hmk;generalize(w.alloc (.cells (#[I 1,I 1,I 1,I 64]) 27)).alloc (.cells (madeCells #[Z] P.length) 3)=W1 at*;go_loopg[16]P.length(fun g s16 wr=>∃k:Nat,s16= .int .i64 (k:Int)∧k+g=P.length∧Hid (ax (w.heap.size+1) W1 wr∧gg wr (w.heap.size+1) 3 (mU P.length k)));case atStart=>exact⟨0,rfl,aa,Lib.hid ⟨ax.refl _ _,hmade.out⟩⟩
 case round=>
  obtain⟨k,rfl,hg,HH⟩:=hrel;have HG:=Lib.hid hg;obtain⟨hU,hR⟩:=HH.out;have hws:=hU.size;by_cases hk:k<P.length;·
   have hkz:(k:Int)<(P.length:Int):=aa;have n1:0≤(k:Int):=aa;have hcell:=hR.at'.cell (i:=k) (v:=Z) (by unfold mU;simp[hk]);have hfr:=hR.at'.frozen k;have hst:gg (wr.setCell ⟨w.heap.size+1,k,none⟩ (I (k:Int))) (w.heap.size+1) 3 (mU P.length (k+1)):=by rw[←GG hk];exact hR.set k _
   have HST:=Lib.hid (show ax (w.heap.size+1) W1 (wr.setCell ⟨w.heap.size+1,k,none⟩ (I (k:Int)))∧_ from⟨hU.set _ _,hst⟩);clear hst hg hU hR;go_wp2;go_roundg(P.length-(k+1));case measure=>have:=HG.out;omega
   case rel=>exact⟨k+1,ay,lu,HST⟩
  ·obtain rfl:k=P.length:=aa;rw[GF]at hR;have hkz:¬((P.length:Int)<(P.length:Int)):=aa;have HA0:=Lib.hid (Ov (n:=P.length) (cap:=P.length) hR.at' ay hR.lt (Nat.le_refl _) fZ);have HB0:=Lib.hid (hbm.out.trans (hU.below aa aa));obtain⟨x1,x2,x3,x4,x5,x6,x7,x8,x9,x10⟩:=g7 hU;obtain⟨hq1,hq2⟩:=hqb.out;have hqr:aK wr w.heap.size 27 4=true:=by rw[x1 _ _ _ aa aa];exact hq1
   have hqo:aH wr w.heap.size=(#[I 1,I 1,I 1,I 64]:AV):=by rw[x2 _ aa aa];exact hq2
   have hqc:=aI hqr;clear hU hR hg x1 x2 x3 x4 x5 x6 x7 x8 x9 x10 hq1 hq2;go_wp2_with(go_at_call 319;refine(E4 _).mono ?_;rintro e w1⟨rfl,hb⟩;have HBt:=Lib.hid hb;clear hb);go_loopg[7,26]4(fun g s7 s26 wr=>∃(t:Nat)(A:List Nat),s26= .int .i64 (t:Int)∧t+g=4∧Hid (Below w.heap.size w wr∧Sl wr s7 1 (A.map fw)∧(∀x∈A,x<P.length)∧A.length≤P.length∧(t=4→A=[])));case atStart=>exact⟨0,List.range P.length,rfl,rfl,Lib.hid ⟨HB0.out.trans (HBt.out.mono (by have:=HB0.out.size;omega)),HA0.out.below HBt.out,fun x hx=>List.mem_range.1 hx,ay,fun e=>aa⟩⟩
   case round=>
    obtain⟨t,A,rfl,hg,HH⟩:=hrel;obtain⟨hB,hA,hA1,hA2,hA3⟩:=HH.out;have HB:=Lib.hid hB;have HA:=Lib.hid hA;clear hB hA;rcases(aa:t=0∨t=1∨t=2∨t=3∨t=4)with rfl|rfl|rfl|rfl|rfl;·
     have hwr0:Hid (Below wr.heap.size wr (wr.alloc (.cells #[I 1,I 1] 405))):=Lib.hid ((Below.refl _ _).alloc (Nat.le_refl _) _);have HSP:=Lib.hid ((HSv.out.below HB.out).below hwr0.out);have HSA:=Lib.hid (HA.out.below hwr0.out);have hws0:=HB.out.size;go_upto_region 10 with(fail);refine gx (aw _) [0,4,5,6,7,8] [1,2] [3,9,10,11] af af (fun _ _ d _ _ h=>bo) ⟨(Below.refl _ _).drew⟩ ?_;simp only[PL];apply ae;·intro W hS;exact bJ
     try simp only[PT]
     apply ae;·intro W hS;exact bJ
     try simp only[PT]
     apply ae;·intro W hS;exact bJ
     try simp only[PT]
     apply ae;·intro W hS;exact bJ
     try simp only[PT]
     apply ae;·intro W hS;exact bJ
     try simp only[PT]
     apply ae;·intro W hS;exact bJ
     try simp only[PT]
     refine aC ?_;repeat
      (
       first|go_big_quiet_skip|
        (
         go_big_quiet_want;apply bp;·intro W hS;exact mJ
         go_big_quiet_on;try simp only[PT]))
     refine wpQuiet_nil ?_;intro w1 hS1;have xxa:=cZ hS1.out;(try have zza:=zs w.heap.size w1.heap.size);have hk:=hS1;refine cH ?_;go_wp2_with(go_at_call 322;refine(oH P A _ u7 _ (HSP.out.below hS1.out) (HSA.out.below hS1.out) hA1 aa).mono ?_;rintro e w2⟨v1,rfl,ho,hb⟩;have hk2:=aw.mk hb;have xxb:=cZ hk2.out;(try have zzb:=zs w.heap.size w2.heap.size);clear hb;have HO1:=Lib.hid ho;clear ho);refine am ⟨bY⟩ ?_;refine cH ?_;go_wp2_with(go_at_call 321;refine(No (gC P A) v1 1 _ HO1.out.sl aa (FR)).mono ?_;rintro e w3⟨Gx,v2,rfl,hsG,hG0,hG1,hG2,hb⟩;have hk3:=aw.mk hb;have HSG:=Lib.hid hsG;have xxc:=cZ hk3.out;(try have zzc:=zs w.heap.size w3.heap.size);clear hb hsG);refine am ⟨bY⟩ ?_;refine cH ?_;go_wp2_with(go_at_call 320;refine(nY A Gx u7 _ _ (((HSA.out.below hS1.out).below hk2.out).below hk3.out) HSG.out (fun x hx=>by have:=hG1 x hx;simpa[gC]using this) aa (by have:=hG0;simp only[gC,List.length_map]at this;omega)).mono ?_;rintro e w4⟨v3,rfl,ho,hb⟩;have hk4:=aw.mk hb;have HO3:=Lib.hid ho;have xxd:=cZ hk4.out;(try have zzd:=zs w.heap.size w4.heap.size);clear hb ho);refine am ⟨bY⟩ ?_;refine cH ?_;go_wp2;refine am ⟨bY⟩ ?_;refine jG ?_;go_wp2;go_roundg 3;case measure=>omega
     case rel=>exact⟨1,fI A Gx 0,rfl,aa,Lib.hid ⟨bY,HO3.out.sl,fun x hx=>hA1 x (jR A Gx 0 x hx),by have:=jQ A Gx 0;omega,(fun e=>aa)⟩⟩
    ·have hwr0:Hid (Below wr.heap.size wr (wr.alloc (.cells #[I 2,I 1] 405))):=Lib.hid ((Below.refl _ _).alloc (Nat.le_refl _) _);have HSP:=Lib.hid ((HSv.out.below HB.out).below hwr0.out);have HSA:=Lib.hid (HA.out.below hwr0.out);have hws0:=HB.out.size;go_upto_region 10 with(fail);refine gx (aw _) [0,4,5,6,7,8] [1,2] [3,9,10,11] af af (fun _ _ d _ _ h=>bo) ⟨(Below.refl _ _).drew⟩ ?_;simp only[PL];apply ae;·intro W hS;exact bJ
     try simp only[PT]
     apply ae;·intro W hS;exact bJ
     try simp only[PT]
     apply ae;·intro W hS;exact bJ
     try simp only[PT]
     apply ae;·intro W hS;exact bJ
     try simp only[PT]
     apply ae;·intro W hS;exact bJ
     try simp only[PT]
     apply ae;·intro W hS;exact bJ
     try simp only[PT]
     refine aC ?_;repeat
      (
       first|go_big_quiet_skip|
        (
         go_big_quiet_want;apply bp;·intro W hS;exact mJ
         go_big_quiet_on;try simp only[PT]))
     refine wpQuiet_nil ?_;intro w1 hS1;have xxa:=cZ hS1.out;(try have zza:=zs w.heap.size w1.heap.size);have hk:=hS1;refine cH ?_;go_wp2_with(go_at_call 322;refine(oH P A _ u7 _ (HSP.out.below hS1.out) (HSA.out.below hS1.out) hA1 aa).mono ?_;rintro e w2⟨v1,rfl,ho,hb⟩;have hk2:=aw.mk hb;have xxb:=cZ hk2.out;(try have zzb:=zs w.heap.size w2.heap.size);clear hb;have HO1:=Lib.hid ho;clear ho);refine am ⟨bY⟩ ?_;refine cH ?_;go_wp2_with(go_at_call 321;refine(Np (gC P A) v1 1 _ HO1.out.sl aa (FR)).mono ?_;rintro e w3⟨rfl,hb⟩;have hk3:=aw.mk hb;have HSG:Hid (Sl w3 V 1 (([]:List Nat).map fw)):=Lib.hid (Sl.nil _ _);have xxc:=cZ hk3.out;(try have zzc:=zs w.heap.size w3.heap.size);clear hb);refine am ⟨bY⟩ ?_;refine cH ?_;go_wp2_with(go_at_call 320;refine(nY A [] u7 _ _ (((HSA.out.below hS1.out).below hk2.out).below hk3.out) HSG.out ay aa ay).mono ?_;rintro e w4⟨v3,rfl,ho,hb⟩;have hk4:=aw.mk hb;have HO3:=Lib.hid ho;have xxd:=cZ hk4.out;(try have zzd:=zs w.heap.size w4.heap.size);clear hb ho);refine am ⟨bY⟩ ?_;refine cH ?_;go_wp2;refine am ⟨bY⟩ ?_;refine jG ?_;go_wp2;go_roundg 2;case measure=>omega
     case rel=>exact⟨2,fI A [] 0,rfl,aa,Lib.hid ⟨bY,HO3.out.sl,fun x hx=>hA1 x (jR A [] 0 x hx),by have:=jQ A [] 0;omega,(fun e=>aa)⟩⟩
    ·have hwr0:Hid (Below wr.heap.size wr (wr.alloc (.cells #[I 3,I 1] 405))):=Lib.hid ((Below.refl _ _).alloc (Nat.le_refl _) _);have HSP:=Lib.hid ((HSv.out.below HB.out).below hwr0.out);have HSA:=Lib.hid (HA.out.below hwr0.out);have hws0:=HB.out.size;go_upto_region 10 with(fail);refine gx (aw _) [0,4,5,6,7,8] [1,2] [3,9,10,11] af af (fun _ _ d _ _ h=>bo) ⟨(Below.refl _ _).drew⟩ ?_;simp only[PL];apply ae;·intro W hS;exact bJ
     try simp only[PT]
     apply ae;·intro W hS;exact bJ
     try simp only[PT]
     apply ae;·intro W hS;exact bJ
     try simp only[PT]
     apply ae;·intro W hS;exact bJ
     try simp only[PT]
     apply ae;·intro W hS;exact bJ
     try simp only[PT]
     apply ae;·intro W hS;exact bJ
     try simp only[PT]
     refine aC ?_;repeat
      (
       first|go_big_quiet_skip|
        (
         go_big_quiet_want;apply bp;·intro W hS;exact mJ
         go_big_quiet_on;try simp only[PT]))
     refine wpQuiet_nil ?_;intro w1 hS1;have xxa:=cZ hS1.out;(try have zza:=zs w.heap.size w1.heap.size);have hk:=hS1;refine cH ?_;go_wp2_with(go_at_call 322;refine(oH P A _ u7 _ (HSP.out.below hS1.out) (HSA.out.below hS1.out) hA1 aa).mono ?_;rintro e w2⟨v1,rfl,ho,hb⟩;have hk2:=aw.mk hb;have xxb:=cZ hk2.out;(try have zzb:=zs w.heap.size w2.heap.size);clear hb;have HO1:=Lib.hid ho;clear ho);refine am ⟨bY⟩ ?_;refine cH ?_;go_wp2_with(go_at_call 321;refine(Nq (gC P A) v1 1 _ HO1.out.sl aa (FR)).mono ?_;rintro e w3⟨rfl,hb⟩;have hk3:=aw.mk hb;have HSG:Hid (Sl w3 V 1 (([]:List Nat).map fw)):=Lib.hid (Sl.nil _ _);have xxc:=cZ hk3.out;(try have zzc:=zs w.heap.size w3.heap.size);clear hb);refine am ⟨bY⟩ ?_;refine cH ?_;go_wp2_with(go_at_call 320;refine(nY A [] u7 _ _ (((HSA.out.below hS1.out).below hk2.out).below hk3.out) HSG.out ay aa ay).mono ?_;rintro e w4⟨v3,rfl,ho,hb⟩;have hk4:=aw.mk hb;have HO3:=Lib.hid ho;have xxd:=cZ hk4.out;(try have zzd:=zs w.heap.size w4.heap.size);clear hb ho);refine am ⟨bY⟩ ?_;refine cH ?_;go_wp2;refine am ⟨bY⟩ ?_;refine jG ?_;go_wp2;go_roundg 1;case measure=>omega
     case rel=>exact⟨3,fI A [] 0,rfl,aa,Lib.hid ⟨bY,HO3.out.sl,fun x hx=>hA1 x (jR A [] 0 x hx),by have:=jQ A [] 0;omega,(fun e=>aa)⟩⟩
    ·have hwr0:Hid (Below wr.heap.size wr (wr.alloc (.cells #[I 4,I 64] 405))):=Lib.hid ((Below.refl _ _).alloc (Nat.le_refl _) _);have HSP:=Lib.hid ((HSv.out.below HB.out).below hwr0.out);have HSA:=Lib.hid (HA.out.below hwr0.out);have hws0:=HB.out.size;go_upto_region 10 with(fail);refine gx (aw _) [0,4,5,6,7,8] [1,2] [3,9,10,11] af af (fun _ _ d _ _ h=>bo) ⟨(Below.refl _ _).drew⟩ ?_;simp only[PL];apply ae;·intro W hS;exact bJ
     try simp only[PT]
     apply ae;·intro W hS;exact bJ
     try simp only[PT]
     apply ae;·intro W hS;exact bJ
     try simp only[PT]
     apply ae;·intro W hS;exact bJ
     try simp only[PT]
     apply ae;·intro W hS;exact bJ
     try simp only[PT]
     apply ae;·intro W hS;exact bJ
     try simp only[PT]
     refine aC ?_;repeat
      (
       first|go_big_quiet_skip|
        (
         go_big_quiet_want;apply bp;·intro W hS;exact mJ
         go_big_quiet_on;try simp only[PT]))
     refine wpQuiet_nil ?_;intro w1 hS1;have xxa:=cZ hS1.out;(try have zza:=zs w.heap.size w1.heap.size);have hk:=hS1;refine cH ?_;go_wp2_with(go_at_call 322;refine(oH P A _ u7 _ (HSP.out.below hS1.out) (HSA.out.below hS1.out) hA1 aa).mono ?_;rintro e w2⟨v1,rfl,ho,hb⟩;have hk2:=aw.mk hb;have xxb:=cZ hk2.out;(try have zzb:=zs w.heap.size w2.heap.size);clear hb;have HO1:=Lib.hid ho;clear ho);refine am ⟨bY⟩ ?_;refine cH ?_;go_wp2_with(go_at_call 321;refine(Nr (gC P A) v1 64 _ HO1.out.sl aa (FR)).mono ?_;rintro e w3⟨Gx,v2,rfl,hsG,hG0,hG1,hG2,hb⟩;have hk3:=aw.mk hb;have HSG:=Lib.hid hsG;have xxc:=cZ hk3.out;(try have zzc:=zs w.heap.size w3.heap.size);clear hb hsG);refine am ⟨bY⟩ ?_;refine cH ?_;go_wp2_with(go_at_call 320;refine(nY A Gx u7 _ _ (((HSA.out.below hS1.out).below hk2.out).below hk3.out) HSG.out (fun x hx=>by have:=hG1 x hx;simpa[gC]using this) aa (by have:=hG0;simp only[gC,List.length_map]at this;omega)).mono ?_;rintro e w4⟨v3,rfl,ho,hb⟩;have hk4:=aw.mk hb;have HO3:=Lib.hid ho;have xxd:=cZ hk4.out;(try have zzd:=zs w.heap.size w4.heap.size);clear hb ho);refine am ⟨bY⟩ ?_;refine cH ?_;go_wp2;refine am ⟨bY⟩ ?_;refine jG ?_;go_wp2;go_roundg 0;case measure=>omega
     case rel=>exact⟨4,fI A Gx 0,rfl,aa,Lib.hid ⟨bY,HO3.out.sl,fun x hx=>hA1 x (jR A Gx 0 x hx),by have:=jQ A Gx 0;omega,(fun _=>uW A Gx 0 fun j hj=>by rw[Nat.zero_add];exact hG2 (FR) j (by simpa[gC]using hj))⟩⟩
    ·obtain rfl:=hA3 rfl;go_wp2;refine bodyPost_ret (results_tmp rfl _ _ _) rfl ?_;exact⟨_,rfl,HA.out,HB.out⟩
end
section
attribute[local go_sem↓]aZ aW bv bj
attribute[local go_sem]bN bz dC bq
theorem NM(w:World):(Instr.makeMap 392 (some Z)).run Tryz.prog w= .ok (.map (some w.heap.size)) (w.alloc (.map #[] 0)):=af
attribute[local go_sem]NM
theorem Ga(P:List Nat)(v:Value)(w:World)(hs:Sl w v 10 (P.map aJ))(hl:P.length≤1000):Calls Tryz.prog 302 #[v] w fun e w'=>∃v',e= .returned v'∧aV w' w.heap.size 75 10 v' (P.map aJ)∧Below w.heap.size w w':=by
 obtain⟨a,cap,rfl,q1,q2,q3⟩:=hs;rw[List.length_map]at q1⊢;go_enter Tryz.func302,Tryz.ntmps302;go_wp2;go_loopg[3,8]P.length(fun g s3 s8 wr=>∃k:Nat,s8= .int .i64 (k:Int)∧k+g=P.length∧aw w wr∧Hid (aV wr w.heap.size 75 10 s3 ((P.take k).map aJ)));case atStart=>exact⟨0,rfl,aa,⟨Below.refl _ _⟩,Lib.hid (aV.nil _ _ _ _)⟩
 case round=>
  obtain⟨k,rfl,hg,hK,HO⟩:=hrel;have HG:=Lib.hid hg;have xx:=cZ hK.out;(try have zz:=zs w.heap.size wr.heap.size);by_cases hk:k<P.length;·
   rcases q3 with⟨_,q3⟩|⟨g,o,rfl,hg',q3⟩;·simp at q3;subst q3;simp at hk
   have hE:=q3 k (aJ P[k]) nS;have e1:=hE.is;have e2:=hE.of;have hgr:=hE.lt;have hkz:(k:Int)<(P.length:Int):=aa;have n1:0≤(k:Int):=aa;have hws:=hK.out.size;have htk:(P.take (k+1)).map aJ=(P.take k).map aJ++[aJ P[k]]:=by rw[List.take_succ_eq_append_getElem hk,List.map_append];rfl
   unfold aJ at e2;clear q3 hg;go_wp2_with(at_builtin;refine pD rfl (.tmp 14) (.tmp 16) rfl w.heap.size _ ((P.take k).map aJ) [aJ P[k]] rfl (HO.out.below (nO)) _ _ _ rfl (cY _ (aJ P[k]) 75 10 _ ay rfl rfl) (by simp only[List.length_map,List.length_take,List.length_singleton];omega) aF ?_;intro v' w3 hown hbel hnil);go_roundg(P.length-(k+1));case measure=>have:=HG.out;omega
   case rel=>exact⟨k+1,ay,lu,⟨bY⟩,Lib.hid (by rw[htk];exact hown)⟩
  ·obtain rfl:k=P.length:=aa;have hkz:¬((P.length:Int)<(P.length:Int)):=aa;rw[List.take_length]at HO;go_wp2;refine bodyPost_ret (results_tmp rfl _ _ _) rfl ?_;exact⟨_,rfl,HO.out,hK.out⟩
theorem rp(P:List Nat)(v:Value)(w:World)(hs:Sl w v 10 (P.map aJ))(hl:P.length≤19):Calls Tryz.prog 280 #[v,.agg (#[I 1,I 1,I 1,I 64]),J 1] w fun e w'=>e= .returned V∧Below w.heap.size w w':=by
 have HS:=Lib.hid (hs.below ((Below.refl w.heap.size w).alloc (Nat.le_refl _) (.cells (#[I 1,I 1,I 1,I 64]) 27)));have hls:=Lib.hid (fun g hg=>hs.lt (g:=g) hg);clear hs;go_enter Tryz.func280,Tryz.ntmps280;go_wp2_with(go_at_call 302;refine(Ga P v _ HS.out aa).mono ?_;rintro e w1⟨v1,rfl,ho,hb⟩;have hk1:=aw.mk hb;have xx:=cZ hk1.out;(try have zz:=zs w.heap.size w1.heap.size);clear hb;have HO:=Lib.hid ho;clear ho);refine(Hg P v1 w1 HO.out.sl hl).mono ?_;rintro e w2⟨v2,rfl,hs2,hb2⟩;have hk2:=aw.mk hb2;clear hb2;obtain⟨a2,cap2,rfl,q1,q2,q3⟩:=hs2;simp only[List.map_nil,List.length_nil]at*;go_wp2;go_loopg[7,17]0(fun g s7 s17 wr=>s7= .slice none 0 0∧s17= .int .i64 0∧wr=w2);case atStart=>exact⟨rfl,rfl,rfl⟩
 case round=>obtain⟨rfl,rfl,rfl⟩:=hrel;go_wp2;refine bodyPost_ret (results_tmp rfl _ _ _) rfl ?_;exact⟨rfl,bY⟩
theorem AJ(w:World):Calls Tryz.prog 304 #[V] w fun e w'=>(∃v,e= .returned v)∧Below w.heap.size w w':=by
 go_enter Tryz.func304,Tryz.ntmps304;go_wp2;go_loopg[11]0(fun g s11 wr=>s11= .int .i64 0∧wr=w.alloc (.map #[] 0));case atStart=>exact⟨rfl,rfl⟩
 case round=>obtain⟨rfl,rfl⟩:=hrel;go_wp2;exact bodyPost_ret (results_tmp rfl _ _ _) rfl ⟨⟨_,rfl⟩,bY⟩
theorem EN(w:World):Calls Tryz.prog 281 #[V] w fun e w'=>e= .returned (I (-1))∧Below w.heap.size w w':=by
 go_enter Tryz.func281,Tryz.ntmps281;go_wp2_with(go_at_call 304;refine(AJ _).mono ?_;rintro e w1⟨⟨v,rfl⟩,hb⟩;have hk1:=aw.mk hb;clear hb);go_loopg[4,11]0(fun g s4 s11 wr=>s4= .int .i64 (-1)∧s11= .int .i64 0∧wr=w1);case atStart=>exact⟨rfl,rfl,rfl⟩
 case round=>obtain⟨rfl,rfl,rfl⟩:=hrel;go_wp2;refine bodyPost_ret (results_tmp rfl _ _ _) rfl ?_;exact⟨rfl,bY⟩
theorem m9(P:List Nat)(v:Value)(w:World)(hs:Sl w v 10 (P.map aJ))(hl:P.length≤19):Calls Tryz.prog 250 #[v,.agg (#[I 1,I 1,I 1,I 64]),J 1] w fun e w'=>e= .returned (.tuple #[.agg (#[F,U,U,Z]),F])∧Below w.heap.size w w':=by have HS:=Lib.hid (hs.below (((Below.refl w.heap.size w).alloc (Nat.le_refl _) (.cells (#[I 1,I 1,I 1,I 64]) 27)).alloc ay (.cells (#[F,U,U,Z]) 36)));clear hs;go_enter Tryz.func250,Tryz.ntmps250;go_wp2_with(first|(go_at_call 280;refine(rp P v _ HS.out hl).mono ?_;rintro e w1⟨rfl,hb⟩;have hk1:=aw.mk hb;have xx:=cZ hk1.out;(try have zz:=zs w.heap.size w1.heap.size);clear hb)|(go_at_call 281;refine(EN _).mono ?_;rintro e w2⟨rfl,hb⟩;have hk2:=aw.mk hb;have xxb:=cZ hk2.out;(try have zzb:=zs w.heap.size w2.heap.size);clear hb));exact bodyPost_ret (v:=.tuple #[.agg _,_]) (ci (t:=36) Tryz.results250 _ _ _ rfl jc jc pg BM) rfl ⟨rfl,bY⟩
end
section
attribute[local go_sem↓]bI bu bZ bO aZ aW
attribute[local go_sem]bT cd cz cK dC bq mf kf kv i9 ma kc l9 ka mc ke kw ja mg kg lE iD lF jL nf se sf
theorem o8.low{T B:Nat}{L:List Pm.Val}{W W':World}(h:o8 W T L)(hT:T<B)(k:Below B W W'):o8 W' T L:=by obtain⟨h1,h2,v,h3,h4,h5⟩:=h;refine⟨Nat.lt_of_lt_of_le h1 k.size,by rw[k.frozen (p:=⟨T,0,none⟩) hT];exact h2,v,by rw[k.cell (p:=⟨T,0,none⟩) hT];exact h3,h4.same k.size fun g hg _=>k.block g (by have:=h5 g hg;omega),h5⟩
theorem ax.low{T:Nat}{w W W':World}(h:ax T w W)(k:Below w.heap.size W W'):ax T w W':=⟨k.os.trans h.os,k.tape.trans h.tape,k.output.trans h.output,Nat.le_trans h.size k.size,fun g hg hT=>(k.block g hg).trans (h.block g hg hT)⟩
end
section
attribute[local go_sem↓]da cJ aZ aW bv bj
attribute[local go_sem]dx dc bN bz dC bq
theorem it{p:Prop}(h:p:=by have xx:=cZ hS.out;(try have zz:=zs w.heap.size W.heap.size);go_simp;try with_reducible rfl):p:=h
theorem tI(most S c:Nat)(l:List Nat)(v:Value)(w:World)(hs:Sl w v 10 (l.map aJ))(hl:l.length≤1000):Calls Tryz.prog 195 #[.agg (jI most S c),v] w fun e w'=>∃v',e= .returned v'∧aV w' w.heap.size 75 10 v' ((l++[c]).map aJ)∧Below w.heap.size w w':=by
 have ht:Pm.tOf c≤16:=BV;have ed:jI most S c=(#[most,I 4,S,I 64,I 64,J 1,I 1,I 1,I 1,I 64,I 100,I 100,I 1000,I 2,I 64,I 4,I 1,F,U,J (aM c),I 80,F,U,U,Z,I (Pm.tOf c),Z,F]:AV):=rfl;rw[ed];have HS:=Lib.hid (hs.below ((Below.refl w.heap.size w).alloc (Nat.le_refl _) (.cells (#[most,I 4,S,I 64,I 64,J 1,I 1,I 1,I 1,I 64,I 100,I 100,I 1000,I 2,I 64,I 4,I 1,F,U,J (aM c),I 80,F,U,U,Z,I (Pm.tOf c),Z,F]) 203)));clear hs;go_enter Tryz.func195,Tryz.ntmps195;go_upto_region 1 with(fail);refine gx (aw (w.alloc (.cells (#[most,I 4,S,I 64,I 64,J 1,I 1,I 1,I 1,I 64,I 100,I 100,I 1000,I 2,I 64,I 4,I 1,F,U,J (aM c),I 80,F,U,U,Z,I (Pm.tOf c),Z,F]) 203))) [2,3,4,5,6,7] [0] [1,8,9,10,11] af af (fun _ _ d _ _ h=>bo) ⟨(Below.refl _ _).drew⟩ ?_;simp only[PL];apply ae;·intro W hS;exact it
 try simp only[PT]
 apply ae;·intro W hS;exact it
 try simp only[PT]
 apply ae;·intro W hS;exact it
 try simp only[PT]
 apply ae;·intro W hS;exact it
 try simp only[PT]
 apply ae;·intro W hS;exact it
 try simp only[PT]
 apply ae;·intro W hS;exact it
 try simp only[PT]
 refine aC ?_;repeat
  (
   first|go_big_quiet_skip|
    (
     go_big_quiet_want;apply bp;·intro W hS;have xx:=cZ hS.out;(try have zz:=zs w.heap.size W.heap.size);go_simp;try first|with_reducible rfl
     go_big_quiet_on;try simp only[PT]))
 refine wpQuiet_nil ?_;intro w1 hS1;have xxa:=cZ hS1.out;(try have zza:=zs w.heap.size w1.heap.size);have hk:=hS1;refine cH ?_;go_wp2_with(go_at_call 113;refine(rv v (l.map aJ) _ (HS.out.below hS1.out) aF).mono ?_;rintro e w2⟨v1,rfl,ho,hb⟩;have hk2:=aw.mk hb;have xxb:=cZ hk2.out;(try have zzb:=zs w.heap.size w2.heap.size);clear hb;have HO:=Lib.hid ho;clear ho);refine am ⟨bY⟩ ?_;refine cH ?_;go_wp2_with(go_at_call 210;refine(Ic 0 (aM c) 80 (Pm.tOf c) aa aa _).mono ?_;rintro e w3⟨rfl,rfl⟩);refine am ⟨bY⟩ ?_;refine cH ?_;go_wp2;refine am ⟨bY⟩ ?_;refine cH ?_;go_wp2_with(at_builtin;refine pD rfl (.tmp 6) (.tmp 14) rfl _ _ (l.map aJ) [aJ c] rfl (HO.out.below (bY)) _ _ _ rfl (cY _ (aJ c) 75 10 _ ay rfl rfl) aF aF ?_;intro v' w3 hown hbel hnil);refine am ⟨bY⟩ ?_;refine cH ?_;go_wp2;refine am ⟨bY⟩ ?_;refine jG ?_;go_wp2;refine bodyPost_ret (results_tmp rfl _ _ _) rfl ⟨_,rfl,?_,bY⟩;have:=hown.weaken (B':=w.heap.size) aa;simpa using this
end
end Go.Proofs.YtnncjbkepakgpaaGreat
