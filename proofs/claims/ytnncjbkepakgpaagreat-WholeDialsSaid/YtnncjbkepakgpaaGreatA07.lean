/- A REGION THAT DRAWS: operations that leave what lay in memory as it was, in any order; then the last ones, one by one. A REGION THAT DRAWS, WHOSE READS MAY COME WHENEVER: first those that read; then the quiet ones; then the last ones, each of which keeps the class of worlds. append TO A SLICE OF THE -/
import Derived.Test.YtnncjbkepakgpaaGreatA06
namespace Go.Proofs.YtnncjbkepakgpaaGreat
open Go.RowKit Qv
set_option linter.unusedVariables false
set_option linter.unusedSimpArgs false
set_option maxRecDepth 100000
theorem dC{a b:Nat}(h:a<b):(a<b+1)=True:=eq_true (Nat.lt_succ_of_lt h)
structure aw(w W:World):Prop where
 out:Below w.heap.size w W
theorem cP{w W W':World}(h:aw w W)(k:Below W.heap.size W W'):aw w W':=⟨h.out.trans (k.mono h.out.size)⟩
theorem aw.since{B:Nat}{w w0 W:World}(h:aw w0 W)(k:Below B w w0)(hB:B≤w0.heap.size):Below B w W:=k.trans (h.out.mono hB)
theorem kD{P:Program}{Q:Exit→Act→World→Prop}{id:Nat}{a:Act}{w:World}{l:List Oper}(qs rs:List Nat)(hm:P.follows .mixedOrders=true)(hB:ED l [] qs rs=true)(hQ:∀c(a:Act)d v w,Q (.panic c) (a.put d v) w→Q (.panic c) a w)(h:wpQuiet P l.toArray (aw w) (fun a'=>∀w',aw w w'→wpList P l.toArray Q (bX l rs) a' w') (bX l qs) a):(Code.region id l.toArray true).wp P Q a w:=oM (aw w) [] qs rs hm hB hQ ⟨(Below.refl _ _).drew⟩ h
theorem eU{P:Program}{Q:Exit→Act→World→Prop}{id:Nat}{a:Act}{w:World}{l:List Oper}(fs qs rs:List Nat)(hm:P.follows .mixedOrders=true)(hB:ED l fs qs rs=true)(hQ:∀c(a:Act)d v w,Q (.panic c) (a.put d v) w→Q (.panic c) a w)(h:kS P (wpQuiet P l.toArray (aw w) (fun a'=>∀w',aw w w'→wpList P l.toArray Q (bX l rs) a' w') (bX l qs)) (bX l fs) a):(Code.region id l.toArray true).wp P Q a w:=oM (aw w) fs qs rs hm hB hQ ⟨(Below.refl _ _).drew⟩ h
theorem bH{P:Program}{Q:Exit→Act→World→Prop}{id:Nat}{a:Act}{w:World}{l:List Oper}(hm:P.follows .mixedOrders=true)(hB:Region.lexB .any l.toArray=true)(h:wpQuiet P l.toArray (aw w) (fun a'=>∀w',aw w w'→Q .normal a' w') l a):(Code.region id l.toArray true).wp P Q a w:=wp_region_quiet (C:=aw w) hm hB ⟨(Below.refl _ _).drew⟩ rn
/-! Results: two. -/
theorem ow{ty t:TypeId}{n:Nat}{C:Array Value}(W:World)(g:Nat)(hr:aK W g t n=true)(hC:aH W g=C)(hi:(Tryz.prog.info? ty).map (·.size)=some n)(hagg:∀w,(isAgg ty).run Tryz.prog w= .ok true w):(loadVar ty ⟨g,0,none⟩).run Tryz.prog W= .ok (.agg C) W:=by
 obtain⟨h1,h2⟩:=bK hr;rw[hC]at h1 h2;have hl:(loadCells ⟨g,0,none⟩ C.toList.length).run Tryz.prog W= .ok C.toList.toArray W:=run_loadCells_list (P:=Tryz.prog) W ⟨g,0,none⟩ C.toList (fun j v hv=>by have hadd:(⟨g,0,none⟩:Addr).add j=⟨g,j,none⟩:=BT;rw[hadd,cell_of_row W g j _ t (0,0) h1];simpa using hv);cases hq:Tryz.prog.info? ty with
  |none=>rw[hq]at hi;cases hi
  |some i=>
   have hs:i.size=C.size:=by rw[hq]at hi;rw[h2];simpa using hi
   simp only[Array.length_toList,Array.toArray_toList]at hl;simp[loadVar,Sem.run_bind,hagg,sizeOf,typeInfo,hq,hs,hl]
theorem ci{fn:Func}{p q:Tmp}{ty t:TypeId}{n:Nat}{C:Array Value}(h:fn.results=#[.cell p ty,.tmp q])(tmps:Array Value)(W:World)(g:Nat)(hp:tmps.getD p undef= .pointer (some ⟨g,0,none⟩))(hr:aK W g t n=true)(hC:aH W g=C)(hi:(Tryz.prog.info? ty).map (·.size)=some n)(hagg:∀w,(isAgg ty).run Tryz.prog w= .ok true w):(results fn tmps).run Tryz.prog W= .ok (.tuple #[.agg C,tmps.getD q undef]) W:=by
 have hl:=ow (ty:=ty) W g hr hC hi hagg;have hp':tmps[p]?.getD undef= .pointer (some ⟨g,0,none⟩):=by simpa using hp
 simp[results,h,hp',asAddr,Sem.run_bind,hl]
theorem fx{fn:Func}{p q:Tmp}{ty t ty' t':TypeId}{n n':Nat}{C C':Array Value}(h:fn.results=#[.cell p ty,.cell q ty'])(tmps:Array Value)(W:World)(g g':Nat)(hp:tmps.getD p undef= .pointer (some ⟨g,0,none⟩))(hq:tmps.getD q undef= .pointer (some ⟨g',0,none⟩))(hr:aK W g t n=true)(hC:aH W g=C)(hi:(Tryz.prog.info? ty).map (·.size)=some n)(hagg:∀w,(isAgg ty).run Tryz.prog w= .ok true w)(hr':aK W g' t' n'=true)(hC':aH W g'=C')(hi':(Tryz.prog.info? ty').map (·.size)=some n')(hagg':∀w,(isAgg ty').run Tryz.prog w= .ok true w):(results fn tmps).run Tryz.prog W= .ok (.tuple #[.agg C,.agg C']) W:=by
 have hl:=ow (ty:=ty) W g hr hC hi hagg;have hl':=ow (ty:=ty') W g' hr' hC' hi' hagg';have hp':tmps[p]?.getD undef= .pointer (some ⟨g,0,none⟩):=by simpa using hp
 have hq':tmps[q]?.getD undef= .pointer (some ⟨g',0,none⟩):=by simpa using hq
 simp[results,h,hp',hq',asAddr,Sem.run_bind,hl,hl']
section
theorem aj{B B':Nat}{a W w3:World}(k:Below B W w3)(h:Below B' a W)(hB:B'≤B):Below B' a w3:=h.trans (k.mono hB)
theorem aV.weaken{W:World}{B B':Nat}{e:TypeId}{n:Nat}{v:Value}{L:List (Array Value)}(h:aV W B e n v L)(hB:B'≤B):aV W B' e n v L:=by
 obtain⟨⟨h1,h2⟩,h3⟩:=h;refine⟨⟨h1,?_⟩,h3⟩;rcases h2 with h2|⟨g,cap,cur,h4,h5,h6⟩;·exact .inl h2
 ·exact .inr ⟨g,cap,cur,h4,Nat.le_trans hB h5,h6⟩
section
variable{P:Program}{ops:Array Oper}{md:Region.Mode}{Q:Exit→Act→World→Prop}{C:World→Prop}
theorem Ag{o:Oper}{a:Act}{w:World}{K:Act→World→Prop}{Q Q':Exit→Act→World→Prop}(h:∀c a w,Q (.panic c) a w→Q' (.panic c) a w)(hl:LetsOut Q→LetsOut Q')(hh:o.wp P a w K Q):o.wp P a w K Q':=by
 unfold Oper.wp at*;generalize(execOp a.eval o).run P w=r at*;cases r with
  |ok n w'=>
   cases n<;>simp only[Oper.upon]at hh⊢;case enter f args=>
    refine Calls.mono hh fun e w'' he=>?_;cases e with
     |returned u=>exact he
     |panicked c=>exact h _ _ _ he
     |outgrown=>exact hl he
   all_goals exact hh
  |halt x w'=>cases x<;>simp only[Oper.upon]at hh⊢;case panic u=>exact h _ _ _ hh
def ch(P:Program)(md:Region.Mode)(ops:Array Oper)(C:World→Prop)(Q:Exit→Act→World→Prop):Nat→Array Bool→Act→World→Prop
 |0,L,a,w=>Region.ready md ops L=[]∧Q .normal a w
 |f+1,L,a,w=>(Region.ready md ops L=[]→Q .normal a w)∧∀i∈Region.ready md ops L,wpOp P ops Q i (fun a' w'=>C w'∧ch P md ops C Q f (L.setIfInBounds i true) a' w') a w
theorem rg:∀(f:Nat)(L:Array Bool)(a:Act)(w:World),ch P md ops C Q f L a w→wpAny P md ops Q f L a w
 |0,_,_,_,h=>h
 |f+1,_,_,_,h=>⟨h.1,fun i hi=>wpOp_mono (fun a w h'=>rg f _ a w h'.2) (h.2 i hi)⟩
def fj(P:Program)(ops:Array Oper)(C:World→Prop)(o:Oper)(v:Value)(a:Act):Prop:=(Region.wanted o (yielded ops a.tmps)=true∧∀w,C w→(execOp a.eval o).run P w= .ok (.value v) w)∨(Region.wanted o (yielded ops a.tmps)=false∧v=undef)
theorem fj.of_same{o:Oper}{v:Value}{a a':Act}(hy:fj P ops C o v a)(he:execOp a'.eval o=execOp a.eval o)(hw:Region.wanted o (yielded ops a'.tmps)=Region.wanted o (yielded ops a.tmps)):fj P ops C o v a':=by unfold fj at*;rw[he,hw];exact hy
theorem fj.wpOp{i:Nat}{o:Oper}{v:Value}{a:Act}{w:World}(hi:ops[i]? =some o)(hC:C w)(hy:fj P ops C o v a){K:Act→World→Prop}(h:K (a.put o.dst v) w):wpOp P ops Q i K a w:=by
 unfold Go.wpOp;simp only[hi];rcases hy with⟨hw,hv⟩|⟨hw,rfl⟩;·simp only[hw,if_true,Oper.wp,hv w hC,Oper.upon];exact .inl h
 ·simp only[hw,Bool.false_eq_true,if_false];exact h
theorem vW{j:Nat}{oi oj:Oper}{v:Value}(hj:ops[j]? =some oj)(hap:oi.apart ops oj=true)(hsi:∀cs b,oi.op≠.select cs b)(hsj:∀cs b,oj.op≠.select cs b)(hQ:∀c a w,Q (.panic c) (a.put oi.dst v) w→Q (.panic c) a w){K:Act→World→Prop}{a:Act}{w:World}(hy:fj P ops C oi v a)(h:wpOp P ops Q j K (a.put oi.dst v) w):wpOp P ops Q j (fun a' w'=>fj P ops C oi v a'∧K (a'.put oi.dst v) w') a w:=by
 obtain⟨h1,h2,h3⟩:=Oper.apart_spec hap;have keep:∀(a:Act),fj P ops C oi v a→∀u,fj P ops C oi v (a.put oj.dst u):=fun a hy u=>hy.of_same (execOp_put oi hsi a oj.dst u h3) (wanted_put oi a oj.dst u h3);have keepD:∀d,fj P ops C oi v {a with defers:=d::a.defers}:=fun d=>hy.of_same rfl rfl;unfold wpOp at*;simp only[hj]at*;rw[wanted_put oj a oi.dst v h1]at h;split;·
  rename_i hw;simp only[hw,if_true]at h;rcases h with h|⟨hasks,hlets⟩;case inr=>exact .inr ⟨by unfold Oper.asks at*;rw[execOp_put oj hsj a oi.dst v h1]at hasks;exact hasks,hlets⟩
  refine .inl ?_;unfold Oper.wp at*;rw[execOp_put oj hsj a oi.dst v h1]at h;generalize(execOp a.eval oj).run P w=r at*;cases r with
   |ok n w'=>
    cases n<;>simp only[Oper.upon]at h⊢;case value u=>exact⟨keep a hy u,by rw[←Act.put_comm a v u h2];exact h⟩
    case skip=>exact⟨keep a hy _,by rw[←Act.put_comm a v undef h2];exact h⟩
    case defer d=>refine⟨keep _ (keepD d) _,?_⟩;rw[←Act.put_comm _ v undef h2,←Act.put_defers];exact h
    case enter f args=>
     refine Calls.mono h fun e w'' he=>?_;cases e with
      |returned u=>exact⟨keep a hy u,by rw[←Act.put_comm a v u h2];exact he⟩
      |panicked c=>exact hQ _ _ _ he
      |outgrown=>exact he
    case row row args=>exact Rows.mono h fun u w'' he=>⟨keep a hy u,by rw[←Act.put_comm a v u h2];exact he⟩
   |halt x w'=>cases x<;>simp only[Oper.upon]at h⊢;case panic u=>exact hQ _ _ _ h
 ·rename_i hw;simp only[hw]at h;exact⟨keep a hy _,by rw[←Act.put_comm a v undef h2];exact h⟩
theorem re{i:Nat}{oi:Oper}{v:Value}(hi:ops[i]? =some oi)(hsel:∀(j:Nat)(o:Oper)cs b,ops[j]? =some o→o.op≠.select cs b)(hQ:∀c a w,Q (.panic c) (a.put oi.dst v) w→Q (.panic c) a w):∀(fuel:Nat)(listed:Array Bool)(a:Act)(w:World),C w→(∀j oj,ops[j]? =some oj→j≠i→listed.getD j true=false→(∀e∈oj.after,Region.binds md e=true→e.on≠i)→oi.apart ops oj=true)→i∈Region.ready md ops listed→fj P ops C oi v a→ch P md ops C Q fuel (listed.setIfInBounds i true) (a.put oi.dst v) w→ch P md ops C Q (fuel+1) listed a w:=by
 intro fuel;induction fuel with
  |zero=>
   intro listed a w hC _ hr hy Hx;refine⟨fun h=>B1,fun j hj=>?_⟩;by_cases hji:j=i;·subst hji;exact hy.wpOp hi hC ⟨hC,Hx⟩
   ·have:=ready_mono hj hji;rw[Hx.1]at this;cases this
  |succ fuel ih=>
   intro listed a w hC hfree hr hy Hx;refine⟨fun h=>B1,fun j hj=>?_⟩;by_cases hji:j=i;·subst hji;exact hy.wpOp hi hC ⟨hC,Hx⟩
   ·have h1:=Hx.2 j (ready_mono hj hji);obtain⟨hjun,oj,hoj,hall⟩:=mem_ready.1 hj;have hnot:∀e∈oj.after,Region.binds md e=true→e.on≠i:=fun e he hb heq=>by
     have h1:=hall e he hb;have h0:=(mem_ready.1 hr).1;rw[heq]at h1;rcases Nat.lt_or_ge i listed.size with h'|h';·simp[h']at h0 h1;rw[h0]at h1;cases h1
     ·simp[Array.getElem?_eq_none h']at h1
    have h2:=vW hoj (hfree j oj hoj hji hjun hnot) (fun cs b=>hsel i oi cs b hi) (fun cs b=>hsel j oj cs b hoj) hQ hy h1;have hfree':∀k ok,ops[k]? =some ok→k≠i→(listed.setIfInBounds j true).getD k true=false→(∀e∈ok.after,Region.binds md e=true→e.on≠i)→oi.apart ops ok=true:=fun k ok hk hki hun hno=>by
     refine hfree k ok hk hki ?_ hno;by_cases hjk:j=k;·subst hjk;exact hjun
     ·rw[getD_set_ne true hjk]at hun;exact hun
    have hri:i∈Region.ready md ops (listed.setIfInBounds j true):=ready_mono hr (Ne.symm hji);refine wpOp_mono (fun a' w' h3=>?_) h2;obtain⟨h4,h5,h6⟩:=h3;have h7:(listed.setIfInBounds i true).setIfInBounds j true=(listed.setIfInBounds j true).setIfInBounds i true:=Array.setIfInBounds_comm _ _ (Ne.symm hji);rw[h7]at h6;exact⟨h5,ih (listed.setIfInBounds j true) a' w' h5 hfree' hri h4 h6⟩
def eM(C:World→Prop)(K:Act→World→Prop)(Q:Exit→Act→World→Prop):Exit→Act→World→Prop
 | .normal,a,w=>C w∧K a w
 | .exit i,a,w=>Q (.exit i) a w
 | .goto l,a,w=>Q (.goto l) a w
 | .ret,a,w=>Q .ret a w
 | .panic c,a,w=>Q (.panic c) a w
 | .outgrown,a,w=>Q .outgrown a w
theorem am{K:Act→World→Prop}{a:Act}{w:World}(h:C w)(h':K a w):eM C K Q .normal a w:=⟨h,h'⟩
def gz(P:Program)(ops:Array Oper)(C:World→Prop)(Q:Exit→Act→World→Prop):List Oper→Act→World→Prop
 |[],a,w=>Q .normal a w
 |o::r,a,w=>wpList P ops (eM C (gz P ops C Q r) Q) [o] a w
theorem jG{a:Act}{w:World}(h:Q .normal a w):gz P ops C Q [] a w:=h
theorem cH{a:Act}{w:World}{o:Oper}{r:List Oper}(h:wpList P ops (eM C (gz P ops C Q r) Q) [o] a w):gz P ops C Q (o::r) a w:=h
theorem AF{a:Act}{w:World}{o:Oper}{r:List Oper}{i:Nat}(hi:ops[i]? =some o)(h:gz P ops C Q (o::r) a w):wpOp P ops Q i (fun a' w'=>C w'∧gz P ops C Q r a' w') a w:=by
 unfold gz wpList at h;unfold wpOp;simp only[hi];split;·
  rename_i hw;simp only[hw,if_true]at h;rcases h with h|⟨h1,h2⟩;·exact .inl (Ag (fun c a w h=>h) (fun h=>h) h)
  ·exact .inr ⟨h1,h2⟩
 ·rename_i hw;simp only[hw]at h;exact h
theorem uI{l:List Oper}(hops:ops=l.toArray):∀(rs:List Nat)(L:Array Bool)(a:Act)(w:World),lR l.toArray [] rs L=true→gz P l.toArray C Q (bX l rs) a w→ch P .any l.toArray C Q rs.length L a w
 |[],L,a,w,hB,h=>by simp only[lR,vB,List.isEmpty_iff]at hB;exact⟨hB,h⟩
 |j::rs,L,a,w,hB,h=>by
  simp only[lR,vB,Bool.and_eq_true,beq_iff_eq]at hB;obtain⟨⟨h1,h2⟩,h3⟩:=hB;obtain⟨o,ho⟩:=Option.isSome_iff_exists.1 h2;refine⟨fun h0=>by rw[h0]at h1;exact absurd h1 ay,fun i hi=>?_⟩;rw[h1]at hi;simp only[List.mem_singleton]at hi;subst hi;have hp:bX l (i::rs)=o::bX l rs:=by show aU l i++_=_;rw[gS gB];rfl
  rw[hp]at h;exact wpOp_mono (fun a' w' h'=>⟨h'.1,uI hops rs _ a' w' h3 h'.2⟩) (AF ho h)
theorem uv:∀(k m:Nat)(L:Array Bool)(a:Act)(w:World),ch P md ops C Q k L a w→ch P md ops C Q (m+k) L a w
 |0,0,_,_,_,h=>h
 |0,m+1,_,_,_,h=>⟨fun _=>h.2,fun i hi=>by rw[h.1]at hi;cases hi⟩
 |k+1,m,L,a,w,h=>⟨h.1,fun i hi=>wpOp_mono (fun a' w' h'=>⟨h'.1,uv k m _ a' w' h'.2⟩) (h.2 i hi)⟩
theorem NV{l:List Oper}{qs rs:List Nat}{K:Act→Prop}{k:Nat}(hB:rh l rs=true)(hW:I4 l qs rs=true)(hK:∀a w,C w→K a→ch P .any l.toArray C Q k (sL l.length rs) a w)(S:Array Bool→Prop)(hS:∀L i,S L→i∈Region.ready .any l.toArray L→S (L.setIfInBounds i true))(hcl:∀L,S L→mX l L)(hfs:∀L M,S L→Rl l.length rs L M→∀j,j<l.length→j∉rs→j∉qs→L.getD j false=true):∀(f:Nat)(L M:Array Bool)(a:Act)(w:World),S L→Rl l.length rs L M→C w→wpAnyQ P .any l.toArray C K f M a→ch P .any l.toArray C Q (f+k) L a w:=by
 intro f;induction f with
  |zero=>intro L M a w hSL h hC hq;have:=kh h (kQ hB h hq.1);subst this;rw[Nat.zero_add];exact hK a w hC hq.2
  |succ f ih=>
   intro L M a w hSL h hC hq;by_cases hr:Region.ready .any l.toArray M=[];·have:=kh h (kQ hB h hr);subst this;exact uv _ _ _ _ _ (hK a w hC (hq.1 hr))
   ·rw[show f+1+k=(f+k)+1 by omega];have notrs:∀i,i∈Region.ready .any l.toArray M→i∉rs:=fun i hi hrs=>by obtain⟨h0,o,ho,_⟩:=mem_ready.1 hi;have hil:i<l.length:=Pd;have:=h.hi i hrs hil;simp[Array.getD_eq_getD_getElem?,this]at h0
    refine⟨fun h0=>?_,fun i hi=>?_⟩;·obtain⟨i,hi⟩:=List.exists_mem_of_ne_nil _ hr;have:=(kC hB h (notrs i hi)).2 hi;rw[h0]at this;cases this
    ·by_cases hrs:i∈rs;·
      exfalso;apply hr;obtain⟨h0,o,ho,hall⟩:=mem_ready.1 hi;have ho':l[i]? =some o:=gB;have hq':∀q∈qs,L.getD q false=true:=fun q hqm=>by have h1:=List.all_eq_true.1 hW i hrs;exact ny (hcl L hSL) _ i q o ho' hall (List.all_eq_true.1 h1 q hqm)
      refine List.eq_nil_iff_forall_not_mem.2 fun j hj=>?_;have hjr:=notrs j hj;obtain⟨h3,oj,hoj,_⟩:=mem_ready.1 hj;have hjl:j<l.length:=by have:=(Array.getElem?_eq_some_iff.1 hoj).1;simpa using this
      have h4:L.getD j false=true:=by
       by_cases hjq:j∈qs;·exact hq' j hjq
       ·exact hfs L M hSL h j hjl hjr hjq
      rw[jM h hjr]at h4;have hs:j<M.size:=by rw[h.size'];exact hjl
      simp[hs]at h3 h4;rw[h3]at h4;cases h4
     ·have hi':=(kC hB h hrs).1 hi;exact wpOp_of_qOp hC (fun a' w' hC' hK'=>⟨hC',ih _ _ a' w' (hS _ _ hSL hi) (h.set hrs) hC' hK'⟩) (hq.2 i hi')
def ei(P:Program)(C:World→Prop)(K:Act→Prop):List Oper→Act→Prop
 |[],a=>K a
 |o::r,a=>∃v,(∀w,C w→(execOp a.eval o).run P w= .ok (.value v) w)∧ei P C K r (a.put o.dst v)
theorem aC{K:Act→Prop}{a:Act}(h:K a):ei P C K [] a:=h
theorem ae{K:Act→Prop}{a:Act}{o:Oper}{r:List Oper}{v:Value}(h:∀w,C w→(execOp a.eval o).run P w= .ok (.value v) w)(h':ei P C K r (a.put o.dst v)):ei P C K (o::r) a:=⟨v,h,h'⟩
theorem mE{l:List Oper}(hs:Region.noSelect l.toArray=true)(hQ:∀c(a:Act)d v w,Q (.panic c) (a.put d v) w→Q (.panic c) a w)(w:World)(hC:C w)(K:Act→Prop)(m:Nat):∀(fs:List Nat)(L:Array Bool)(a:Act),fL l.toArray fs L=true→(∀a,K a→ch P .any l.toArray C Q m (dH L fs) a w)→ei P C K (bX l fs) a→ch P .any l.toArray C Q (fs.length+m) L a w
 |[],L,a,hB,hK,h=>uC
 |i::fs,L,a,hB,hK,h=>by
  simp only[fL,Bool.and_eq_true]at hB;obtain⟨⟨⟨h1,h2⟩,h3⟩,h4⟩:=hB;split at h3;·
   rename_i o ho;have hp:bX l (i::fs)=o::bX l fs:=by show aU l i++_=_;rw[gS gB];rfl
   rw[hp]at h;obtain⟨v,hv,h5⟩:=h;have e:(i::fs).length+m=(fs.length+m)+1:=aF;rw[e];refine re ho (Region.noSelect_spec hs) (fun c a w h=>hQ c a _ _ w h) _ L a w hC (Region.free_spec ho h1) xU (v:=v) (.inl ⟨?_,hv⟩) (mE hs hQ w hC K m fs _ _ h4 (fun a h=>uC) h5);unfold Region.wanted;rw[Option.isNone_iff_eq_none.1 h3]
  ·cases h3
theorem gx{id:Nat}{a:Act}{w:World}{l:List Oper}(C:World→Prop)(fs qs rs:List Nat)(hm:P.follows .mixedOrders=true)(hB:ED l fs qs rs=true)(hQ:∀c(a:Act)d v w,Q (.panic c) (a.put d v) w→Q (.panic c) a w)(hC:C w.drew)(h:ei P C (wpQuiet P l.toArray C (fun a'=>∀w',C w'→gz P l.toArray C Q (bX l rs) a' w') (bX l qs)) (bX l fs) a):(Code.region id l.toArray true).wp P Q a w:=by
 simp only[ED,Bool.and_eq_true,decide_eq_true_eq]at hB;obtain⟨⟨⟨⟨⟨⟨⟨hs,hc⟩,hb⟩,hw,hcB⟩,hf⟩,hq⟩,hr⟩,hlen⟩:=hB;simp only[AK,Bool.and_eq_true,List.all_eq_true,List.mem_range,Bool.or_eq_true,List.contains_iff_mem,Bool.not_eq_true',decide_eq_true_eq]at hc;obtain⟨⟨⟨⟨c1,c2⟩,c3⟩,c4⟩,c5⟩:=hc;have c2':∀j∈fs,j∉rs:=fun j hj hr=>by have:=c2 j hj;simp[hr]at this
 refine wp_region_any hm (rg (C:=C) _ _ _ _ ?_);have hsz:(Array.replicate l.length false).size=l.length:=ay;obtain⟨s1,g1⟩:=iW l.length fs _ hsz;obtain⟨s2,g2⟩:=iW l.length rs _ s1;have hR:Rl l.length rs (dH (Array.replicate l.length false) fs) (dH (dH (Array.replicate l.length false) fs) rs):=by
  refine⟨s1,s2,fun j hj=>?_,fun j hj hn=>?_,fun j hj hn=>?_⟩;·
   rcases Nat.lt_or_ge j l.length with hn|hn;·rw[g2 j hn];simp[hj,s1,hn]
   ·rw[Array.getElem?_eq_none aa,Array.getElem?_eq_none aa]
  ·rw[g1 j hn];have:j∉fs:=fun e=>c2' j e hj;simp[this,hn]
  ·rw[g2 j hn];simp[hj]
 have key:=mE (P:=P) (Q:=Q) (l:=l) hs hQ w.drew hC (wpQuiet P l.toArray C (fun a'=>∀w',C w'→gz P l.toArray C Q (bX l rs) a' w') (bX l qs)) (qs.length+rs.length) fs (Array.replicate l.length false) a hf (fun a1 h1=>NV (C:=C) (K:=fun a'=>∀w',C w'→gz P l.toArray C Q (bX l rs) a' w') (k:=rs.length) hb hw (fun a' w' hC' hK'=>uI rfl rs _ a' w' hr (hK' w' hC')) (fun L=>L.size=l.length∧mX l L∧∀j∈fs,L.getD j false=true) (fun L i⟨hL0,hL1,hL⟩hi=>⟨by simpa using hL0,ry hL1 hL0 hi,fun j hj=>by
  by_cases e:i=j;·
   subst e;by_cases hsz':i<L.size;·simp[Array.getD_eq_getD_getElem?,hsz']
   ·have:=hL i hj;simp[Array.getD_eq_getD_getElem?,Array.getElem?_eq_none (Nat.le_of_not_lt hsz')]at this
  ·have:=hL j hj;simpa[Array.getD_eq_getD_getElem?,Array.getElem?_setIfInBounds,e]using this⟩) (fun L hL=>hL.2.1) (fun L M hL _ j hj hjr hjq=>by
  rcases c1 j hj with(h|h)|h;·exact hL.2.2 j h
  ·exact absurd h hjq
  ·exact absurd h hjr) qs.length _ _ a1 w.drew ⟨s1,fun i o ho hL e he hb=>by
  have hin:i<l.length:=(List.getElem?_eq_some_iff.1 ho).1;have hif:i∈fs:=by have:=g1 i hin;simp only[Array.getD_eq_getD_getElem?,this]at hL;simpa[hin]using hL
  have h1:=List.all_eq_true.1 hcB i hif;rw[ho]at h1;simp only[Array.all_eq_true_iff_forall_mem,Bool.or_eq_true,Bool.not_eq_true',List.contains_iff_mem]at h1;rcases h1 e he with h2|h2;·rw[hb]at h2;cases h2
  ·simp[Array.getD_eq_getD_getElem?,g1 e.on (c5 _ h2),h2],fun j hj=>by have hjn:=c5 j hj;simp[Array.getD_eq_getD_getElem?,g1 j hjn,hj]⟩ hR hC (lN hs qs _ a1 hq h1)) h;have e:fs.length+(qs.length+rs.length)=l.toArray.size:=aF;rw[e]at key;simpa using key
end
end
theorem j6{p:Prop}(h:p:=by
 rcases List.mem_append.1 hC with hC|hC;·exact hown.2 C hC
 ·exact⟨hM.sizes C hC,hM.ones C hC⟩):p:=h
theorem J9:(Tryz.prog.info? 32).map (fun i=>(i.zero,i.size,i.bytes))=some (some (.slice none 0 0),1,24):=af
theorem ML{ops:Array Oper}{rest:List Oper}{o:Oper}{a:Act}{w:World}{Q:Exit→Act→World→Prop}(hgd:o.guard=none)(s x:Operand)(ho:o.op= .call {callee:=.builtin .append,args:=#[s,x],argTypes:=#[48,48]})(B:Nat)(v:Value)(L M:List (Array Value))(hs:a.eval s=v)(hown:aV w B 62 5 v L)(ad:Addr)(m k:Nat)(hx:a.eval x= .slice (some ad) m k)(hM:Sl w (E (some ad) m k) 5 M)(hlen:L.length+M.length≤200000)(hbase:B≤w.heap.size)(h:∀v' w',aV w' B 62 5 v' (L++M)→Below B w w'→(∀q,q<w.heap.size→v.ownBlock≠some q→w'.heap[q]? =w.heap[q]?)→w.heap.size≤w'.heap.size→wpList Tryz.prog ops Q rest (a.put o.dst v') w'):wpList Tryz.prog ops Q (o::rest) a w:=by
 obtain⟨i0,hi,hz0,hz1,hz2⟩:=info_parts Cn;obtain⟨h1,h2,h3⟩:=hM.flat az;have hm:m=M.length:=DT;subst hm;refine wpList_append_own (P:=Tryz.prog) _ hgd s x 48 ho B 62 i0 (.agg #[V,Z,V,V,F]) 5 88 Tryz.underlying48 hi hz0 hz1 hz2 rfl az v L.length (flat L) hs hown.1 ad M.length k (flat M) hx h1 h2 h3 fZ aa hbase fun v' w' k1 k2 k3=>h v' w' ⟨?_,?_⟩ ?_ (fun q hq hne=>k2.block q hq (fun e=>hne e.symm)) k2.size;·rw[fv,List.length_append];exact k1
 ·intro C hC;exact j6
 ·exact(Below.refl B w).grown k2 hbase fun q hq=>(hown.base hq).1
theorem MJ{ops:Array Oper}{rest:List Oper}{o:Oper}{a:Act}{w:World}{Q:Exit→Act→World→Prop}(hgd:o.guard=none)(s x:Operand)(ho:o.op= .call {callee:=.builtin .append,args:=#[s,x],argTypes:=#[31,31]})(B:Nat)(v:Value)(L M:List (Array Value))(hs:a.eval s=v)(hown:aV w B 32 1 v L)(ad:Addr)(m k:Nat)(hx:a.eval x= .slice (some ad) m k)(hM:Sl w (E (some ad) m k) 1 M)(hlen:L.length+M.length≤200000)(hbase:B≤w.heap.size)(h:∀v' w',aV w' B 32 1 v' (L++M)→Below B w w'→(∀q,q<w.heap.size→v.ownBlock≠some q→w'.heap[q]? =w.heap[q]?)→w.heap.size≤w'.heap.size→wpList Tryz.prog ops Q rest (a.put o.dst v') w'):wpList Tryz.prog ops Q (o::rest) a w:=by
 obtain⟨i0,hi,hz0,hz1,hz2⟩:=info_parts J9;obtain⟨h1,h2,h3⟩:=hM.flat az;have hm:m=M.length:=DT;subst hm;refine wpList_append_own (P:=Tryz.prog) _ hgd s x 31 ho B 32 i0 V 1 24 Tryz.underlying31 hi hz0 hz1 hz2 rfl az v L.length (flat L) hs hown.1 ad M.length k (flat M) hx h1 h2 h3 fZ aa hbase fun v' w' k1 k2 k3=>h v' w' ⟨?_,?_⟩ ?_ (fun q hq hne=>k2.block q hq (fun e=>hne e.symm)) k2.size;·rw[fv,List.length_append];exact k1
 ·intro C hC;exact j6
 ·exact(Below.refl B w).grown k2 hbase fun q hq=>(hown.base hq).1
theorem MN{ops:Array Oper}{rest:List Oper}{o:Oper}{a:Act}{w:World}{Q:Exit→Act→World→Prop}(hgd:o.guard=none)(s x:Operand)(ho:o.op= .call {callee:=.builtin .append,args:=#[s,x],argTypes:=#[55,55]})(B:Nat)(v:Value)(L M:List (Array Value))(hs:a.eval s=v)(hown:aV w B 75 10 v L)(ad:Addr)(m k:Nat)(hx:a.eval x= .slice (some ad) m k)(hM:Sl w (E (some ad) m k) 10 M)(hlen:L.length+M.length≤200000)(hbase:B≤w.heap.size)(h:∀v' w',aV w' B 75 10 v' (L++M)→Below B w w'→(∀q,q<w.heap.size→v.ownBlock≠some q→w'.heap[q]? =w.heap[q]?)→w.heap.size≤w'.heap.size→wpList Tryz.prog ops Q rest (a.put o.dst v') w'):wpList Tryz.prog ops Q (o::rest) a w:=by
 obtain⟨i0,hi,hz0,hz1,hz2⟩:=info_parts jf;obtain⟨h1,h2,h3⟩:=hM.flat az;have hm:m=M.length:=DT;subst hm;refine wpList_append_own (P:=Tryz.prog) _ hgd s x 55 ho B 75 i0 (.agg #[F,U,U,Z,F,Z,Z,Z,Z,Z]) 10 80 Tryz.underlying55 hi hz0 hz1 hz2 rfl az v L.length (flat L) hs hown.1 ad M.length k (flat M) hx h1 h2 h3 fZ aa hbase fun v' w' k1 k2 k3=>h v' w' ⟨?_,?_⟩ ?_ (fun q hq hne=>k2.block q hq (fun e=>hne e.symm)) k2.size;·rw[fv,List.length_append];exact k1
 ·intro C hC;exact j6
 ·exact(Below.refl B w).grown k2 hbase fun q hq=>(hown.base hq).1
theorem aV.two{W:World}{B B':Nat}{e e':TypeId}{n n':Nat}{v v':Value}{L L':List (Array Value)}(h:aV W B e n v L)(h':aV W B' e' n' v' L')(ht:e≠e'){g:Nat}(hv:v.ownBlock=some g):v'.ownBlock≠some g:=by
 intro hv';obtain⟨⟨_,h2⟩,_⟩:=h;obtain⟨⟨_,h2'⟩,_⟩:=h';rcases h2 with⟨rfl,_⟩|⟨q,cap,cur,rfl,h4,h5,h6⟩;·simp[Value.ownBlock]at hv
 rcases h2' with⟨rfl,_⟩|⟨q',cap',cur',rfl,h4',h5',h6'⟩;·simp[Value.ownBlock]at hv'
 simp only[Value.ownBlock,Option.some.injEq]at hv hv';subst hv hv';rw[h5]at h5';simp only[Option.some.injEq,Obj.cells.injEq]at h5';exact ht h5'.2.1
theorem aV.beside{W W':World}{B B':Nat}{e e':TypeId}{n n':Nat}{v v':Value}{L L':List (Array Value)}(h:aV W B e n v L)(h':aV W B' e' n' v' L')(ht:e≠e')(hw:∀q,q<W.heap.size→v'.ownBlock≠some q→W'.heap[q]? =W.heap[q]?):aV W' B e n v L:=h.same fun g hg hl=>hw g hl (aV.two h h' ht hg)
section
section
variable{P:Program}{Q:Exit→Act→World→Prop}{C:World→Prop}{l:List Oper}{L:Array Bool}{f:Nat}{a:Act}{w:World}
theorem iP{ops:Array Oper}{K:Act→World→Prop}{o:Oper}{i:Nat}(hi:ops[i]? =some o)(h:wpList P ops (eM C K Q) [o] a w):wpOp P ops Q i (fun a' w'=>C w'∧K a' w') a w:=by
 unfold wpList at h;unfold wpOp;simp only[hi];split;·
  rename_i hw;simp only[hw,if_true]at h;rcases h with h|⟨h1,h2⟩;·exact .inl (Ag (fun c a w h=>h) (fun h=>h) h)
  ·exact .inr ⟨h1,h2⟩
 ·rename_i hw;simp only[hw]at h;exact h
theorem cw(hr:(Region.ready .any l.toArray L).isEmpty=true)(h:Q .normal a w):ch P .any l.toArray C Q 0 L a w:=⟨by simpa using hr,h⟩
theorem lI{i:Nat}(h:(l[i]?).isSome=true):∃o,l[i]? =some o∧aU l i=[o]:=by obtain⟨o,ho⟩:=Option.isSome_iff_exists.1 h;exact⟨o,ho,gS ho⟩
theorem aX(i:Nat)(hr:(Region.ready .any l.toArray L==[i])=true)(hi:(l[i]?).isSome=true)(h:wpList P l.toArray (eM C (ch P .any l.toArray C Q f (L.setIfInBounds i true)) Q) (aU l i) a w):ch P .any l.toArray C Q (f+1) L a w:=by rw[beq_iff_eq]at hr;obtain⟨o,ho,e⟩:=lI hi;rw[e]at h;refine⟨fun h0=>xP,fun j hj=>?_⟩;rw[hr]at hj;simp only[List.mem_singleton]at hj;subst hj;exact iP gB h
theorem fT(i k:Nat)(hr:(Region.ready .any l.toArray L==[i,k])=true)(hi:(l[i]?).isSome=true)(hk:(l[k]?).isSome=true)(h:wpList P l.toArray (eM C (ch P .any l.toArray C Q f (L.setIfInBounds i true)) Q) (aU l i) a w)(h':wpList P l.toArray (eM C (ch P .any l.toArray C Q f (L.setIfInBounds k true)) Q) (aU l k) a w):ch P .any l.toArray C Q (f+1) L a w:=by
 rw[beq_iff_eq]at hr;obtain⟨o,ho,e⟩:=lI hi;obtain⟨o',ho',e'⟩:=lI hk;rw[e]at h;rw[e']at h';refine⟨fun h0=>xP,fun j hj=>?_⟩;rw[hr]at hj;simp only[List.mem_cons,List.not_mem_nil,or_false]at hj;rcases hj with rfl|rfl;·exact iP gB h
 ·exact iP (by simpa using ho') h'
theorem bb(fs:List Nat)(f:Nat){m:Nat}(he:fs.length+f=m)(hB:(Region.noSelect l.toArray&&fL l.toArray fs L)=true)(hQ:∀c(a:Act)d v w,Q (.panic c) (a.put d v) w→Q (.panic c) a w)(hC:C w)(h:ei P C (fun a'=>ch P .any l.toArray C Q f (dH L fs) a' w) (bX l fs) a):ch P .any l.toArray C Q m L a w:=by subst he;simp only[Bool.and_eq_true]at hB;exact mE hB.1 hQ w hC _ f fs L a hB.2 (fun a h=>h) h
theorem bA{id:Nat}(C:World→Prop)(fs:List Nat)(n:Nat)(hm:P.follows .mixedOrders=true)(hB:(Region.noSelect l.toArray&&fL l.toArray fs (Array.replicate l.length false)&&decide (fs.length+n=l.length))=true)(hQ:∀c(a:Act)d v w,Q (.panic c) (a.put d v) w→Q (.panic c) a w)(hC:C w.drew)(h:ei P C (fun a'=>ch P .any l.toArray C Q n (dH (Array.replicate l.length false) fs) a' w.drew) (bX l fs) a):(Code.region id l.toArray true).wp P Q a w:=by simp only[Bool.and_eq_true,decide_eq_true_eq]at hB;obtain⟨⟨hs,hf⟩,hlen⟩:=hB;refine wp_region_any hm (rg (C:=C) _ _ _ _ ?_);have key:=mE (P:=P) (Q:=Q) (l:=l) hs hQ w.drew hC _ n fs (Array.replicate l.length false) a hf (fun a h=>h) h;rw[hlen]at key;simpa using key
end
end
section
section
variable{P:Program}{Q:Exit→Act→World→Prop}{C:World→Prop}{l:List Oper}{L:Array Bool}{f:Nat}{a:Act}{w:World}
def uR(P:Program)(ops:Array Oper)(C:World→Prop)(K:Act→Prop):List Oper→Act→Prop
 |[o],a=>∃v,fj P ops C o v a∧K (a.put o.dst v)
 |_,_=>False
theorem jO{ops:Array Oper}{K:Act→Prop}{o:Oper}{v:Value}(hw:Region.wanted o (yielded ops a.tmps)=true)(h:∀W,C W→(execOp a.eval o).run P W= .ok (.value v) W)(hK:K (a.put o.dst v)):uR P ops C K [o] a:=⟨v,.inl ⟨hw,h⟩,hK⟩
theorem jN{ops:Array Oper}{K:Act→Prop}{o:Oper}(hw:Region.wanted o (yielded ops a.tmps)=false)(hK:K (a.put o.dst undef)):uR P ops C K [o] a:=⟨undef,.inr ⟨hw,rfl⟩,hK⟩
theorem eI(i:Nat)(hB:(Region.noSelect l.toArray&&Region.free .any l.toArray L i&&(Region.ready .any l.toArray L).contains i&&(l[i]?).isSome)=true)(hQ:∀c(a:Act)d v w,Q (.panic c) (a.put d v) w→Q (.panic c) a w)(hC:C w)(h:uR P l.toArray C (fun a'=>ch P .any l.toArray C Q f (L.setIfInBounds i true) a' w) (aU l i) a):ch P .any l.toArray C Q (f+1) L a w:=by simp only[Bool.and_eq_true]at hB;obtain⟨⟨⟨hs,h1⟩,h2⟩,h3⟩:=hB;obtain⟨o,ho,e⟩:=lI h3;rw[e]at h;obtain⟨v,hv,h⟩:=h;have ho':l.toArray[i]? =some o:=gB;exact re ho' (Region.noSelect_spec hs) (fun c a w h=>hQ c a _ _ w h) _ L a w hC (Region.free_spec ho' h1) xU hv h
end
end
section
section
variable{P:Program}{ops:Array Oper}{md:Region.Mode}{Q:Exit→Act→World→Prop}{C:World→Prop}{z:Nat}
def dg(P:Program)(md:Region.Mode)(ops:Array Oper)(z:Nat)(C:World→Prop)(Q:Exit→Act→World→Prop):Nat→Array Bool→Act→World→Prop
 |0,L,a,w=>Region.ready md ops L=[]∧Q .normal a w
 |f+1,L,a,w=>(Region.ready md ops L=[]→Q .normal a w)∧∀i∈Region.ready md ops L,wpOp P ops Q i (fun a' w'=>(i≠z→C w')∧dg P md ops z C Q f (L.setIfInBounds i true) a' w') a w
theorem xE:∀(f:Nat)(L:Array Bool)(a:Act)(w:World),dg P md ops z C Q f L a w→wpAny P md ops Q f L a w
 |0,_,_,_,h=>h
 |f+1,_,_,_,h=>⟨h.1,fun i hi=>wpOp_mono (fun a w h'=>xE f _ a w h'.2) (h.2 i hi)⟩
def iZ(md:Region.Mode)(l:List Oper)(z:Nat):Bool:=match l[z]? with
 |none=>false
 |some o=>(List.range l.length).all fun j=>j==z||o.after.any fun e=>Region.binds md e&&e.on==j
theorem us{l:List Oper}(h:iZ md l z=true){L:Array Bool}(hz:z∈Region.ready md l.toArray L){i:Nat}(hi:i<l.length)(hn:i≠z):L.getD i false=true:=by
 obtain⟨_,o,ho,hall⟩:=mem_ready.1 hz;have ho':l[z]? =some o:=gB;unfold iZ at h;rw[ho']at h;have h1:=List.all_eq_true.1 h i (List.mem_range.2 hi);simp only[Bool.or_eq_true,beq_iff_eq,Array.any_eq_true',Bool.and_eq_true]at h1;rcases h1 with h1|⟨e,he,hb,rfl⟩;·exact absurd h1 hn
 ·exact hall e he hb
theorem As{i:Nat}{oi:Oper}{v:Value}(hi:ops[i]? =some oi)(hz:∀L,z∈Region.ready md ops L→i≠z→L.getD i false=true)(hsel:∀(j:Nat)(o:Oper)cs b,ops[j]? =some o→o.op≠.select cs b)(hQ:∀c a w,Q (.panic c) (a.put oi.dst v) w→Q (.panic c) a w):∀(fuel:Nat)(listed:Array Bool)(a:Act)(w:World),C w→(∀j oj,ops[j]? =some oj→j≠i→listed.getD j true=false→(∀e∈oj.after,Region.binds md e=true→e.on≠i)→oi.apart ops oj=true)→i∈Region.ready md ops listed→fj P ops C oi v a→dg P md ops z C Q fuel (listed.setIfInBounds i true) (a.put oi.dst v) w→dg P md ops z C Q (fuel+1) listed a w:=by
 intro fuel;induction fuel with
  |zero=>
   intro listed a w hC _ hr hy Hx;refine⟨fun h=>B1,fun j hj=>?_⟩;by_cases hji:j=i;·subst hji;exact hy.wpOp hi hC ⟨fun _=>hC,Hx⟩
   ·have:=ready_mono hj hji;rw[Hx.1]at this;cases this
  |succ fuel ih=>
   intro listed a w hC hfree hr hy Hx;refine⟨fun h=>B1,fun j hj=>?_⟩;by_cases hji:j=i;·subst hji;exact hy.wpOp hi hC ⟨fun _=>hC,Hx⟩
   ·have h1:=Hx.2 j (ready_mono hj hji);obtain⟨hjun,oj,hoj,hall⟩:=mem_ready.1 hj;have hnot:∀e∈oj.after,Region.binds md e=true→e.on≠i:=fun e he hb heq=>by
     have h1:=hall e he hb;have h0:=(mem_ready.1 hr).1;rw[heq]at h1;rcases Nat.lt_or_ge i listed.size with h'|h';·simp[h']at h0 h1;rw[h0]at h1;cases h1
     ·simp[Array.getElem?_eq_none h']at h1
    have h2:=vW hoj (hfree j oj hoj hji hjun hnot) (fun cs b=>hsel i oi cs b hi) (fun cs b=>hsel j oj cs b hoj) hQ hy h1;have hfree':∀k ok,ops[k]? =some ok→k≠i→(listed.setIfInBounds j true).getD k true=false→(∀e∈ok.after,Region.binds md e=true→e.on≠i)→oi.apart ops ok=true:=fun k ok hk hki hun hno=>by
     refine hfree k ok hk hki ?_ hno;by_cases hjk:j=k;·subst hjk;exact hjun
     ·rw[getD_set_ne true hjk]at hun;exact hun
    have hri:i∈Region.ready md ops (listed.setIfInBounds j true):=ready_mono hr (Ne.symm hji);refine wpOp_mono (fun a' w' h3=>?_) h2;obtain⟨h4,h5,h6⟩:=h3;have h7:(listed.setIfInBounds i true).setIfInBounds j true=(listed.setIfInBounds j true).setIfInBounds i true:=Array.setIfInBounds_comm _ _ (Ne.symm hji);rw[h7]at h6;have hjz:j≠z:=fun e=>by
     have e1:=hz listed (e▸hj) (fun e2=>hji (e.trans e2.symm));have e2:=(mem_ready.1 hr).1;rcases Nat.lt_or_ge i listed.size with h'|h';·simp[h']at e1 e2;rw[e2]at e1;cases e1
     ·simp[Array.getElem?_eq_none h']at e1
    exact⟨h5,ih (listed.setIfInBounds j true) a' w' (h5 hjz) hfree' hri h4 h6⟩
theorem nz{l:List Oper}(hwz:iZ .any l z=true)(hs:Region.noSelect l.toArray=true)(hQ:∀c(a:Act)d v w,Q (.panic c) (a.put d v) w→Q (.panic c) a w)(w:World)(hC:C w)(K:Act→Prop)(m:Nat):∀(fs:List Nat)(L:Array Bool)(a:Act),fL l.toArray fs L=true→(∀a,K a→dg P .any l.toArray z C Q m (dH L fs) a w)→ei P C K (bX l fs) a→dg P .any l.toArray z C Q (fs.length+m) L a w
 |[],L,a,hB,hK,h=>uC
 |i::fs,L,a,hB,hK,h=>by
  simp only[fL,Bool.and_eq_true]at hB;obtain⟨⟨⟨h1,h2⟩,h3⟩,h4⟩:=hB;split at h3;·
   rename_i o ho;have hp:bX l (i::fs)=o::bX l fs:=by show aU l i++_=_;rw[gS gB];rfl
   rw[hp]at h;obtain⟨v,hv,h5⟩:=h;have e:(i::fs).length+m=(fs.length+m)+1:=aF;rw[e];refine As ho (fun L hL hn=>us hwz hL (Pd) hn) (Region.noSelect_spec hs) (fun c a w h=>hQ c a _ _ w h) _ L a w hC (Region.free_spec ho h1) xU (v:=v) (.inl ⟨?_,hv⟩) (nz hwz hs hQ w hC K m fs _ _ h4 (fun a h=>uC) h5);unfold Region.wanted;rw[Option.isNone_iff_eq_none.1 h3]
  ·cases h3
end
section
variable{P:Program}{Q:Exit→Act→World→Prop}{C:World→Prop}{l:List Oper}{L:Array Bool}{f:Nat}{a:Act}{w:World}{z:Nat}
theorem lK{o:Oper}{i:Nat}{ops:Array Oper}{K:Act→World→Prop}(hi:ops[i]? =some o)(h:wpList P ops (eM C K Q) [o] a w):wpOp P ops Q i (fun a' w'=>(i≠z→C w')∧K a' w') a w:=wpOp_mono (fun a w h'=>⟨fun _=>h'.1,h'.2⟩) (iP hi h)
theorem dp(i:Nat)(hz:i=z)(hr:(Region.ready .any l.toArray L==[i])=true)(hi:(l[i]?).isSome=true)(h:wpList P l.toArray (eM (fun _=>True) (dg P .any l.toArray z C Q f (L.setIfInBounds i true)) Q) (aU l i) a w):dg P .any l.toArray z C Q (f+1) L a w:=by rw[beq_iff_eq]at hr;obtain⟨o,ho,e⟩:=lI hi;rw[e]at h;refine⟨fun h0=>xP,fun j hj=>?_⟩;rw[hr]at hj;simp only[List.mem_singleton]at hj;subst hj;exact wpOp_mono (fun a w h'=>⟨fun hn=>absurd hz hn,h'.2⟩) (iP gB h)
theorem dX(hr:(Region.ready .any l.toArray L).isEmpty=true)(h:Q .normal a w):dg P .any l.toArray z C Q 0 L a w:=⟨by simpa using hr,h⟩
theorem bg(i:Nat)(hr:(Region.ready .any l.toArray L==[i])=true)(hi:(l[i]?).isSome=true)(h:wpList P l.toArray (eM C (dg P .any l.toArray z C Q f (L.setIfInBounds i true)) Q) (aU l i) a w):dg P .any l.toArray z C Q (f+1) L a w:=by rw[beq_iff_eq]at hr;obtain⟨o,ho,e⟩:=lI hi;rw[e]at h;refine⟨fun h0=>xP,fun j hj=>?_⟩;rw[hr]at hj;simp only[List.mem_singleton]at hj;subst hj;exact lK gB h
theorem mL(i k:Nat)(hr:(Region.ready .any l.toArray L==[i,k])=true)(hi:(l[i]?).isSome=true)(hk:(l[k]?).isSome=true)(h:wpList P l.toArray (eM C (dg P .any l.toArray z C Q f (L.setIfInBounds i true)) Q) (aU l i) a w)(h':wpList P l.toArray (eM C (dg P .any l.toArray z C Q f (L.setIfInBounds k true)) Q) (aU l k) a w):dg P .any l.toArray z C Q (f+1) L a w:=by
 rw[beq_iff_eq]at hr;obtain⟨o,ho,e⟩:=lI hi;obtain⟨o',ho',e'⟩:=lI hk;rw[e]at h;rw[e']at h';refine⟨fun h0=>xP,fun j hj=>?_⟩;rw[hr]at hj;simp only[List.mem_cons,List.not_mem_nil,or_false]at hj;rcases hj with rfl|rfl;·exact lK gB h
 ·exact lK (by simpa using ho') h'
theorem dV(hwz:iZ .any l z=true)(fs:List Nat)(f:Nat){m:Nat}(he:fs.length+f=m)(hB:(Region.noSelect l.toArray&&fL l.toArray fs L)=true)(hQ:∀c(a:Act)d v w,Q (.panic c) (a.put d v) w→Q (.panic c) a w)(hC:C w)(h:ei P C (fun a'=>dg P .any l.toArray z C Q f (dH L fs) a' w) (bX l fs) a):dg P .any l.toArray z C Q m L a w:=by subst he;simp only[Bool.and_eq_true]at hB;exact nz hwz hB.1 hQ w hC _ f fs L a hB.2 (fun a h=>h) h
theorem cN{id:Nat}(z:Nat)(hwz:iZ .any l z=true)(C:World→Prop)(fs:List Nat)(n:Nat)(hm:P.follows .mixedOrders=true)(hB:(Region.noSelect l.toArray&&fL l.toArray fs (Array.replicate l.length false)&&decide (fs.length+n=l.length))=true)(hQ:∀c(a:Act)d v w,Q (.panic c) (a.put d v) w→Q (.panic c) a w)(hC:C w.drew)(h:ei P C (fun a'=>dg P .any l.toArray z C Q n (dH (Array.replicate l.length false) fs) a' w.drew) (bX l fs) a):(Code.region id l.toArray true).wp P Q a w:=by simp only[Bool.and_eq_true,decide_eq_true_eq]at hB;obtain⟨⟨hs,hf⟩,hlen⟩:=hB;refine wp_region_any hm (xE (z:=z) (C:=C) _ _ _ _ ?_);have key:=nz (z:=z) (P:=P) (Q:=Q) (l:=l) hwz hs hQ w.drew hC _ n fs (Array.replicate l.length false) a hf (fun a h=>h) h;rw[hlen]at key;simpa using key
end
end
section
attribute[local go_sem↓]ew dR jv iC fe eN aZ aW
attribute[local go_sem]fy eZ kJ jy fH ff dC bq
theorem aP{T:Nat}{a w:World}(h:ax T a w)(C:Array Value):ax T a (w.setRow T C):=⟨h.os,h.tape,h.output,by rw[cX];exact h.size,fun k hk hT=>by rw[aY w T k C hT];exact h.block k hk hT⟩
theorem eC{W:World}{v:Value}{n:Nat}{L:List (Array Value)}(h:Sl W v n L){k:Nat}{D:Array Value}(hk:L[k]? =some D):∃g o cap,v= .slice (some ⟨g,o,none⟩) L.length cap∧g<W.heap.size∧aR W ⟨g,o+k*n,none⟩ n=true∧aO W ⟨g,o+k*n,none⟩ n=D∧bB D=true∧D.size=n:=by
 obtain⟨a,cap,rfl,h1,h2,h3⟩:=h;have hkl:=(List.getElem?_eq_some_iff.1 hk).1;rcases h3 with⟨_,h3⟩|⟨g,o,rfl,hg,h3⟩;·subst h3;simp at hkl
 ·exact⟨g,o,cap,rfl,hg,(h3 k D hk).is,(h3 k D hk).of,(h3 k D hk).one,(h3 k D hk).size⟩
end
theorem eV{W:World}{g o n:Nat}{C:Array Value}(h:bc W g=true)(hn:o+n≤C.size):aR (W.setRow g C) ⟨g,o,none⟩ n=true:=jm xO (by rw[fa _ h];exact hn)
theorem eW{W:World}{g o n:Nat}{C:Array Value}(h:bc W g=true)(hn:o+n≤C.size):aO (W.setRow g C) ⟨g,o,none⟩ n=C.extract o (o+n):=by rw[jn xO (by rw[fa _ h];exact hn),fa _ h]
theorem gW{W:World}{g o n:Nat}{C:Array Value}(h:bc W g=true)(hn:o+n≤C.size):bU (W.setRow g C) g o n=true:=oB xO (by rw[fa _ h];exact hn)
theorem gV{W:World}{g i:Nat}{C:Array Value}(h:bc W g=true):(W.setRow g C).cell? ⟨g,i,none⟩=C[i]? :=by rw[gv _ xO,fa _ h]
theorem fz{W:World}{g i:Nat}{C:Array Value}(h:bc W g=true):(W.setRow g C).frozen? ⟨g,i,none⟩=false:=iR _ xO
end Go.Proofs.YtnncjbkepakgpaaGreat
