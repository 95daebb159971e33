/- OPERATIONS THAT MAY BE: op.Place, op.Right. THE BOXES OF A CALL, ONE BEHIND THE OTHER. MEMORY: a lock, a part, a slot; may it be; load, swap, store. MEMORY: load, swap. SMALL FUNCTIONS. -/
import Derived.Test.YtnncjbkepakgpaaGreatA07
namespace Go.Proofs.YtnncjbkepakgpaaGreat
open Go.RowKit Qv
set_option linter.unusedVariables false
set_option linter.unusedSimpArgs false
set_option maxRecDepth 100000
set_option maxHeartbeats 8000000
attribute[go_sem↓]bI bu dQ dA bZ bO aZ aW ew dR ii gK eX eF jv iC fe eN dt db dM dv dN dw bv bj mS lD da cJ
attribute[go_sem]bT cd ez fP cz cK lQ kL fy eZ qe oQ jq io kJ jy fH ff dT dy eA dO eB dP bN bz wY uj dx dc
attribute[go_sem]dC l5 mF ik im ij il nZ l4 lZ mH kP kO jp mD gL jh ky lJ jW qQ bW bF bi jP iq iJ gJ kt kF Qs Qt Qu List.take_succ_cons List.take_zero List.drop_succ_cons List.drop_zero List.cons_append List.nil_append List.length_cons List.length_nil List.size_toArray
attribute[go_sem]nC lS gv iR oE jm jn oB bq Mr cX fa gO fd gf zD tr nD qf qg iX lH oh og
def My(S:Nat)(a b c:Int):Prop:=a=1∨a=2∨a=3∨a=4∨(a=5∧0≤b∧b<S)∨(a=6∧0≤b∧b<S∧0≤c)
theorem EO(S:Nat)(h0:1≤S)(h1:S≤8)(a b c:Int)(hp:My S a b c)(w:World):Calls Tryz.prog 180 #[.agg #[a,b,c],S] w fun e w'=>e= .returned Y∧Below w.heap.size w w':=by
 have s1:(1:Int)≤(S:Int):=aa;have s8:(S:Int)≤8:=aa;have hb:=Classical.em ((0:Int)≤b);have hS:=Classical.em (b<(S:Int));rcases hp with rfl|rfl|rfl|rfl|⟨rfl,p0,pS⟩|⟨rfl,p0,pS,i0⟩;all_goals(rcases hb with hb|hb<;>rcases hS with hS|hS<;>first|(exfalso;omega)|skip)
 all_goals(go_enter Tryz.func180,Tryz.ntmps180;go_wp2;go_ret;exact⟨rfl,bY⟩)
theorem km{C:Array Value}(hn:C.size=13)(h1:bB C=true):∃v1 v2 v3 v4 v5 v6 v7 v8 v9 v10 v11 v12 v13:Value,C=#[v1,v2,v3,v4,v5,v6,v7,v8,v9,v10,v11,v12,v13]∧v1.oneCell'=true∧v2.oneCell'=true∧v3.oneCell'=true∧v4.oneCell'=true∧v5.oneCell'=true∧v6.oneCell'=true∧v7.oneCell'=true∧v8.oneCell'=true∧v9.oneCell'=true∧v10.oneCell'=true∧v11.oneCell'=true∧v12.oneCell'=true∧v13.oneCell'=true:=by
 obtain⟨l⟩:=C;match l,hn with
  |[v1,v2,v3,v4,v5,v6,v7,v8,v9,v10,v11,v12,v13],_=>simp only[bW,bi,bF,Bool.and_eq_true,and_true]at h1;exact⟨v1,v2,v3,v4,v5,v6,v7,v8,v9,v10,v11,v12,v13,rfl,h1⟩
theorem wN(o:Oq)(v1 v2 v3 v4 v5 v6 v7 v8 v9 v10 v11 v12 v13:Value):oC o #[v1,v2,v3,v4,v5,v6,v7,v8,v9,v10,v11,v12,v13]=(#[o.k,o.lk,o.a,o.b,o.c,o.x,o.y,v1,v2,v3,v4,v5,v6,v7,v8,v9,v10,v11,v12,v13,o.m]:AV):=rfl
def E9(S:Nat)(o:Oq):Prop:=0≤o.lk∧o.lk≤S+1∧((o.k=1∧o.a=0)∨(o.k=2∧o.a=0∧o.lk=0)∨(o.k=3∧o.a=0)∨(o.k=4∧o.a=0∧o.lk=0)∨(o.k=5∧My S o.a o.b o.c)∨(o.k=6∧3≤o.a∧My S o.a o.b o.c)∨(o.k=7∧(o.a=1∨o.a=2))∨(o.k=8∧o.a=0))
theorem Ou(S:Nat)(h0:1≤S)(h1:S≤8)(o:Oq)(hf:E9 S o)(CV:Array Value)(hn:CV.size=13)(ho:bB CV=true)(w:World):Calls Tryz.prog 127 #[.agg (oC o CV),S] w fun e w'=>e= .returned Y∧Below w.heap.size w w':=by
 have HP:=Lib.hid (EO S h0 h1);obtain⟨v1,v2,v3,v4,v5,v6,v7,v8,v9,v10,v11,v12,v13,rfl,hv⟩:=km hn ho;obtain⟨k,lk,a,b,c,x,y,v,m⟩:=o;rw[wN];simp only[E9]at hf;have s1:¬((S:Int)<1):=aa;have s8:¬(8<(S:Int)):=aa;have sw:IntKind.i64.wrap ((S:Int)+1)=(S:Int)+1:=eD;obtain⟨l0,l1,hf⟩:=hf;rcases hf with⟨rfl,rfl⟩|⟨rfl,rfl,rfl⟩|⟨rfl,rfl⟩|⟨rfl,rfl,rfl⟩|⟨rfl,hp⟩|⟨rfl,ha,hp⟩|⟨rfl,rfl|rfl⟩|⟨rfl,rfl⟩;rotate_left 6;iterate 7(focus(go_enter Tryz.func127,Tryz.ntmps127;go_wp2;all_goals(go_ret;exact⟨rfl,bY⟩)))
 all_goals(have hp':=Lib.hid hp;rcases hp with rfl|rfl|rfl|rfl|⟨rfl,-⟩|⟨rfl,-⟩)
 all_goals first|(exfalso;omega)|(go_enter Tryz.func127,Tryz.ntmps127;go_wp2_with(go_at_call 180;refine(HP.out _ _ _ hp'.out _).mono ?_;rintro e w1⟨rfl,hb⟩;have hk1:=aw.mk hb;have xx:=cZ hk1.out;have zz:=zs w.heap.size w1.heap.size;clear hb);go_ret;exact⟨rfl,bY⟩)
attribute[go_sem]eV eW gW gV fz
theorem RU(a:Nat):(a+1=a)=False∧(a=a+1)=False:=⟨eq_false aa,eq_false aa⟩
theorem RV(a:Nat):(a+1+1=a)=False∧(a=a+1+1)=False:=⟨eq_false aa,eq_false aa⟩
theorem RX(a:Nat):(a+1+1+1=a)=False∧(a=a+1+1+1)=False:=⟨eq_false aa,eq_false aa⟩
theorem RY(a:Nat):(a+1+1+1+1=a)=False∧(a=a+1+1+1+1)=False:=⟨eq_false aa,eq_false aa⟩
theorem RZ(a:Nat):(a+1+1+1+1+1=a)=False∧(a=a+1+1+1+1+1)=False:=⟨eq_false aa,eq_false aa⟩
theorem R0(a:Nat):(a+1+1+1+1+1+1=a)=False∧(a=a+1+1+1+1+1+1)=False:=⟨eq_false aa,eq_false aa⟩
attribute[go_sem]RU RV RX RY RZ R0
def Bo(W:World)(g:Nat)(t:TypeId)(n:Nat)(C:Array Value):Prop:=aK W g t n=true∧aH W g=C∧bc W g=true∧g<W.heap.size∧(g<W.heap.size+1)=True∧(g=W.heap.size)=False
def Bx(W:World):Nat→List (TypeId×Nat×Array Value)→Prop
 |_,[]=>True
 |g,(t,n,C)::r=>Bo W g t n C∧Bx W (g+1) r
theorem Bo.of{W:World}{g n:Nat}{t:TypeId}{C:Array Value}(h:W.heap[g]? =some (.cells C t (0,0)))(hn:C.size=n):Bo W g t n C:=have h1:=wV h hn;have h2:=bd h1.1;⟨h1.1,h1.2,aI h1.1,h2,eq_true (Nat.lt_succ_of_lt h2),eq_false (Nat.ne_of_lt h2)⟩
theorem Bo.heap{W:World}{g n:Nat}{t:TypeId}{C:Array Value}(h:Bo W g t n C):W.heap[g]? =some (.cells C t (0,0))∧C.size=n:=by have:=bK h.1;rw[h.2.1]at this;exact this
theorem Bx.mono{B:Nat}{W W':World}(k:Below B W W'):∀{g:Nat}{L:List (TypeId×Nat×Array Value)},Bx W g L→g+L.length≤B→Bx W' g L
 |_,[],_,_=>trivial
 |g,(t,n,C)::r,h,hB=>by simp only[List.length_cons]at hB;exact⟨Bo.of ((k.block g aa).trans h.1.heap.1) h.1.heap.2,Bx.mono k h.2 aa⟩
theorem Bx.same{W W':World}:∀{g:Nat}{L:List (TypeId×Nat×Array Value)},Bx W g L→(∀q,g≤q→W'.heap[q]? =W.heap[q]?)→Bx W' g L
 |_,[],_,_=>trivial
 |g,x::r,h,k=>⟨Bo.of ((k g (Nat.le_refl _)).trans h.1.heap.1) h.1.heap.2,Bx.same h.2 fun q hq=>k q aa⟩
theorem Bx.set{W:World}{C:Array Value}:∀{g i:Nat}{L:List (TypeId×Nat×Array Value)},Bx W g L→(∀t n D,L[i]? =some (t,n,D)→C.size=n)→Bx (W.setRow (g+i) C) g (match L[i]? with|some (t,n,_)=>L.set i (t,n,C)|none=>L)
 |_,_,[],_,_=>trivial
 |g,0,(t,n,D)::r,h,hn=>by
  refine⟨Bo.of ?_ (hn t n D rfl),?_⟩;·have:=bK (ip (C:=C) h.1.1 (hn t n D rfl));rw[j3 h.1.1]at this;exact this.1
  ·exact h.2.same fun q hq=>aY _ _ _ _ aa
 |g,i+1,(t,n,D)::r,h,hn=>by
  have:=Bx.set (g:=g+1) (i:=i) h.2 hn;have e:g+(i+1)=g+1+i:=aa;rw[e];simp only[List.getElem?_cons_succ];cases hr:r[i]? with
   |none=>rw[hr]at this;exact⟨Bo.of ((aY _ _ _ _ aa).trans h.1.heap.1) h.1.heap.2,this⟩
   |some x=>rw[hr]at this;exact⟨Bo.of ((aY _ _ _ _ aa).trans h.1.heap.1) h.1.heap.2,this⟩
theorem Bx.upto{T:Nat}{W W':World}(k:ax T W W'):∀{g:Nat}{L:List (TypeId×Nat×Array Value)},Bx W g L→(T<g∨g+L.length≤T)→Bx W' g L
 |_,[],_,_=>trivial
 |g,(t,n,C)::r,h,hT=>by simp only[List.length_cons]at hT;exact⟨Bo.of ((k.block g h.1.2.2.2.1 aa).trans h.1.heap.1) h.1.heap.2,Bx.upto k h.2 aa⟩
theorem dY{W:World}{g:Nat}{L:List (TypeId×Nat×Array Value)}(h:Bx W g L:=by
 simp only[Bx,Bo];repeat' apply And.intro
 all_goals first|trivial|(go_simp;done)|(go_simp;omega)):Bx W g L:=h
def Aq(w:World):List (TypeId×Nat×Array Value)→World
 |[]=>w
 |(t,_,C)::r=>Aq (w.alloc (.cells C t)) r
theorem Ar:∀(L:List (TypeId×Nat×Array Value))(w:World),(∀x∈L,x.2.2.size=x.2.1)→Bx (Aq w L) w.heap.size L∧Below w.heap.size w (Aq w L)∧(Aq w L).heap.size=w.heap.size+L.length
 |[],w,_=>⟨trivial,Below.refl _ _,rfl⟩
 |(t,n,C)::r,w,h=>by obtain⟨h1,h2,h3⟩:=Ar r (w.alloc (.cells C t)) fun x hx=>h x (List.mem_cons_of_mem _ hx);rw[World.size_alloc]at h1 h3 h2;refine⟨⟨Bo.of ((h2.block w.heap.size aa).trans (MapKept.heap_alloc w _).1) (h _ List.mem_cons_self),h1⟩,((Below.refl w.heap.size w).alloc (Nat.le_refl _) _).trans (h2.mono aa),by rw[Aq,h3,List.length_cons];omega⟩
def Qy:List (TypeId×Nat×Array Value)→Prop
 |[]=>True
 |(_,n,C)::r=>C.size=n∧Qy r
theorem xn:∀{L:List (TypeId×Nat×Array Value)},Qy L→∀x∈L,x.2.2.size=x.2.1
 |(_,_,_)::_,h,_,hx=>by
  rcases List.mem_cons.1 hx with rfl|hx;·exact h.1
  ·exact xn h.2 _ hx
theorem en(n:Nat)(L:List (TypeId×Nat×Array Value)){Fx:Nat}{args:Array Value}{Q:Ending→World→Prop}{w:World}(h:∀WB,Hid (Bx WB w.heap.size L)→Below w.heap.size w WB→w.heap.size+n≤WB.heap.size→Bx WB w.heap.size L→Calls Tryz.prog Fx args WB Q)(e:Qy L:=by(repeat' constructor))(en:L.length=n:=by rfl):Calls Tryz.prog Fx args (Aq w L) Q:=let⟨h1,h2,h3⟩:=Ar L w (xn e);h _ (Lib.hid h1) h2 (by rw[h3,en];exact Nat.le_refl _) h1
theorem jg(n:Nat)(L:List (TypeId×Nat×Array Value)){c:Code}{a:Act}{Q:Exit→Act→World→Prop}{w:World}(h:∀WB,Hid (Bx WB w.heap.size L)→Below w.heap.size w WB→w.heap.size+n≤WB.heap.size→Bx WB w.heap.size L→Code.wp Tryz.prog c Q a WB)(e:Qy L:=by(repeat' constructor))(en:L.length=n:=by rfl):Code.wp Tryz.prog c Q a (Aq w L):=let⟨h1,h2,h3⟩:=Ar L w (xn e);h _ (Lib.hid h1) h2 (by rw[h3,en];exact Nat.le_refl _) h1
theorem cD{B:Nat}{W W':World}{g:Nat}{L:List (TypeId×Nat×Array Value)}(k:Below B W W')(h:Hid (Bx W g L))(e:g+L.length≤B:=by simp;omega):Hid (Bx W' g L):=Lib.hid (Bx.mono k h.out e)
theorem dE{A B:Nat}{w W W':World}(d:Below A w W)(k:Below B W W')(e:A≤B:=by omega):Below A w W':=d.trans (k.mono e)
theorem i8{W0:World}{g:Nat}{L:List (TypeId×Nat×Array Value)}(h:Hid (Bx W0 g L))(e:g+L.length≤W0.heap.size:=by simp;omega):Hid (∀W,aw W0 W→Bx W g L):=Lib.hid fun _ k=>Bx.mono k.out h.out e
section
variable{inn out:Int}{a1 a2 a3 a4:Option Addr}{m1 c1 m2 c2 m3 c3 m4 c4:Nat}
theorem qS{p:Prop}(h:PQ p:=by have n1:¬((k:Int)<0):=aa;have n2:¬((CL.length:Int)≤(k:Int)):=aa;have n3:(k:Int)<(CL.length:Int):=aa;have n4:0≤(k:Int):=aa;exact pq (And.intro n1 (And.intro n2 (And.intro n3 n4)))):p:=h
theorem aV.shape{W:World}{B:Nat}{e:TypeId}{n:Nat}{v:Value}{L:List (Array Value)}(h:aV W B e n v L)(h0:L≠[]):∃g cap,v= .slice (some ⟨g,0,none⟩) L.length cap∧B≤g∧g<W.heap.size:=by
 obtain⟨⟨_,h2⟩,_⟩:=h;rcases h2 with⟨_,h2⟩|⟨g,cap,cur,rfl,hB,hg,_⟩;·exact absurd (List.eq_nil_of_length_eq_zero h2) h0
 ·exact⟨g,cap,rfl,hB,(Array.getElem?_eq_some_iff.1 hg).1⟩
theorem aV.put{W:World}{B:Nat}{e:TypeId}{n g m cap:Nat}{L:List (Array Value)}(h:aV W B e n (G g m cap) L){i:Nat}(hi:i<L.length){C:Array Value}(hC:C.size=n)(h1:bB C=true):bU W g (i*n) n=true∧aV (W.setRow g (er (aH W g) (i*n) C)) B e n (G g m cap) (L.set i C):=by obtain⟨g',cap',e',_,_,_,_,h3,h4⟩:=h.setEl hi hC h1;simp only[Value.slice.injEq,Option.some.injEq,Addr.mk.injEq,true_and,and_true]at e';obtain⟨rfl,rfl,rfl⟩:=e';exact⟨h3,h4⟩
theorem Mg(k:Nat)(vL:Value)(CL:List (Array Value))(D:Array Value)(hk:CL[k]? =some D)(w:World)(h:Sl w vL 2 CL):Calls Tryz.prog 83 #[.agg (#[inn,out,E a1 m1 c1,E a2 m2 c2,E a3 m3 c3,vL]),k] w fun e w'=>e= .returned (.agg D)∧Below w.heap.size w w':=by
 obtain⟨g,o,cL,rfl,hg,e1,e2,e3,e4⟩:=eC h hk;have hkl:=(List.getElem?_eq_some_iff.1 hk).1;obtain⟨n1,n2,n3,n4⟩:=qS;have g1:g<w.heap.size+1:=aa;have g2:g<w.heap.size+1+1:=aa;clear h hk;go_enter Tryz.func83,Tryz.ntmps83;go_wp2;refine bodyPost_ret (v:=.agg D) (aN (t:=186) Tryz.results83 _ _ _ rfl ?_ ?_ wJ MC) rfl ?_;·go_simp
 ·go_simp
 exact⟨rfl,nO⟩
def zP:Array Value:=#[F,U,U,Z,F,Z,Z,Z,Z,Z]
theorem PV(n:Int)(k:Nat)(vs:Value)(CL:List (Array Value))(w:World)(h:Sl w vs 10 CL):Calls Tryz.prog 132 #[.agg (#[n,vs]),k] w fun e w'=>e= .returned (.agg (CL.getD k zP))∧Below w.heap.size w w':=by
 cases hk:CL[k]? with
  |some D=>
   rw[List.getD_eq_getElem?_getD,hk];simp only[Option.getD_some];obtain⟨g,o,cL,rfl,hg,e1,e2,e3,e4⟩:=eC h hk;have hkl:=(List.getElem?_eq_some_iff.1 hk).1;obtain⟨n1,n2,n3,n4⟩:=qS;have g1:g<w.heap.size+1:=aa;have g2:g<w.heap.size+1+1:=aa;clear h hk;go_enter Tryz.func132,Tryz.ntmps132;go_wp2;refine bodyPost_ret (v:=.agg D) (aN (t:=75) Tryz.results132 _ _ _ rfl ?_ ?_ sI FA) rfl ?_;·go_simp
   ·go_simp
   exact⟨rfl,nO⟩
  |none=>
   rw[List.getD_eq_getElem?_getD,hk];simp only[Option.getD_none,zP];obtain⟨a,c,rfl,-⟩:=h;have hk':=List.getElem?_eq_none_iff.1 hk;have n2:(CL.length:Int)≤(k:Int):=aa;clear hk;go_enter Tryz.func132,Tryz.ntmps132;go_wp2;refine bodyPost_ret (v:=.agg (#[F,U,U,Z,F,Z,Z,Z,Z,Z])) (aN (t:=75) Tryz.results132 _ _ _ rfl ?_ ?_ sI FA) rfl ?_;·go_simp
   ·go_simp
   exact⟨rfl,nO⟩
theorem Km(k:Nat)(vL:Value)(CL:List (Array Value))(b:Int)(a:Option Addr)(m c:Nat)(hk:k<CL.length)(hl:CL.length≤1000)(w:World)(h:Sl w vL 2 CL):Calls Tryz.prog 84 #[.agg (#[inn,out,E a1 m1 c1,E a2 m2 c2,E a3 m3 c3,vL]),k,.agg #[b,E a m c]] w fun e w'=>∃v',e= .returned (.agg (#[inn,out,E a1 m1 c1,E a2 m2 c2,E a3 m3 c3,v']))∧aV w' w.heap.size 186 2 v' (CL.set k #[b,E a m c])∧Below w.heap.size w w':=by
 have HC:=Lib.hid (fun(W:World)(b:Below w.heap.size w W)=>Gf vL CL W (h.below b) aa);obtain⟨aL,cL,rfl,-⟩:=h;obtain⟨n1,n2,n3,n4⟩:=qS;go_enter Tryz.func84,Tryz.ntmps84;go_wp2_with fail;refine(HC.out _ bY).mono ?_;rintro e w2⟨v2,rfl,ho,hb⟩;obtain⟨g,cap,rfl,hg,hg2⟩:=ho.shape (by intro e;simp[e]at hk);simp only[World.size_alloc]at hg hb ho;have HB:=Bx.mono (g:=w.heap.size) (L:=[(47,6,#[inn,out,E a1 m1 c1,E a2 m2 c2,E a3 m3 c3,E aL CL.length cL]),(186,2,#[b,E a m c]),(47,6,#[Z,Z,V,V,V,V])]) hb dY ay;have HB1:=HB.set (i:=0) (C:=#[inn,out,E a1 m1 c1,E a2 m2 c2,E a3 m3 c3,G g CL.length cap]) (fun _ _ _ e=>iy);have gn:¬(g=w.heap.size):=aa;have ng:¬(w.heap.size=g):=aa;have ho1:=((ho.upto (aP (ax.refl w.heap.size w2) (#[inn,out,E a1 m1 c1,E a2 m2 c2,E a3 m3 c3,G g CL.length cap])) aa).put hk rfl rfl (C:=#[b,E a m c]));rw[gO _ _ _ _ gn]at ho1;have ho1:=Lib.hid ho1;have bw:=Lib.hid (ai (ai ((show Below w.heap.size w _ from bY).trans (hb.mono aa)) (Nat.le_refl w.heap.size) (#[inn,out,E a1 m1 c1,E a2 m2 c2,E a3 m3 c3,G g CL.length cap])) (show w.heap.size≤g by omega) (er (aH w2 g) (k*2) #[b,E a m c]));have HB2:=HB1.mono (ai (Below.refl (w.heap.size+3) _) (show w.heap.size+3≤g by omega) (er (aH w2 g) (k*2) #[b,E a m c])) ay;simp only[Bx,Bo,Nat.add_zero,List.getElem?_cons_zero,List.set_cons_zero]at HB HB1 HB2;have hf:=ho1.out.1;clear ho hb;go_wp2;refine bodyPost_ret (v:=.agg (#[inn,out,E a1 m1 c1,E a2 m2 c2,E a3 m3 c3,G g CL.length cap])) (aN (t:=47) Tryz.results84 _ _ _ rfl ?_ ?_ dF fu) rfl ?_;·go_simp
 ·go_simp
 exact⟨_,rfl,(ho1.out.2.upto (aP (ax.refl (w.heap.size+1+1) _) _) aa).weaken aa,ai bw.out aa _⟩
theorem PS(k:Nat)(vL:Value)(CL:List (Array Value))(b:Int)(a:Option Addr)(m c:Nat)(hk:k<CL.length)(hl:CL.length≤1000)(w:World)(h:Sl w vL 2 CL):Calls Tryz.prog 133 #[.agg (#[inn,out,E a1 m1 c1,E a2 m2 c2,vL,E a4 m4 c4]),k,.agg #[b,E a m c]] w fun e w'=>∃v',e= .returned (.agg (#[inn,out,E a1 m1 c1,E a2 m2 c2,v',E a4 m4 c4]))∧aV w' w.heap.size 129 2 v' (CL.set k #[b,E a m c])∧Below w.heap.size w w':=by
 have HC:=Lib.hid (fun(W:World)(b:Below w.heap.size w W)=>Gg vL CL W (h.below b) aa);obtain⟨aL,cL,rfl,-⟩:=h;obtain⟨n1,n2,n3,n4⟩:=qS;go_enter Tryz.func133,Tryz.ntmps133;go_wp2_with fail;refine(HC.out _ bY).mono ?_;rintro e w2⟨v2,rfl,ho,hb⟩;obtain⟨g,cap,rfl,hg,hg2⟩:=ho.shape (by intro e;simp[e]at hk);simp only[World.size_alloc]at hg hb ho;have HB:=Bx.mono (g:=w.heap.size) (L:=[(47,6,#[inn,out,E a1 m1 c1,E a2 m2 c2,E aL CL.length cL,E a4 m4 c4]),(129,2,#[b,E a m c]),(47,6,#[Z,Z,V,V,V,V])]) hb dY ay;have HB1:=HB.set (i:=0) (C:=#[inn,out,E a1 m1 c1,E a2 m2 c2,G g CL.length cap,E a4 m4 c4]) (fun _ _ _ e=>iy);have gn:¬(g=w.heap.size):=aa;have ng:¬(w.heap.size=g):=aa;have ho1:=((ho.upto (aP (ax.refl w.heap.size w2) (#[inn,out,E a1 m1 c1,E a2 m2 c2,G g CL.length cap,E a4 m4 c4])) aa).put hk rfl rfl (C:=#[b,E a m c]));rw[gO _ _ _ _ gn]at ho1;have ho1:=Lib.hid ho1;have bw:=Lib.hid (ai (ai ((show Below w.heap.size w _ from bY).trans (hb.mono aa)) (Nat.le_refl w.heap.size) (#[inn,out,E a1 m1 c1,E a2 m2 c2,G g CL.length cap,E a4 m4 c4])) (show w.heap.size≤g by omega) (er (aH w2 g) (k*2) #[b,E a m c]));have HB2:=HB1.mono (ai (Below.refl (w.heap.size+3) _) (show w.heap.size+3≤g by omega) (er (aH w2 g) (k*2) #[b,E a m c])) ay;simp only[Bx,Bo,Nat.add_zero,List.getElem?_cons_zero,List.set_cons_zero]at HB HB1 HB2;have hf:=ho1.out.1;clear ho hb;go_wp2;refine bodyPost_ret (v:=.agg (#[inn,out,E a1 m1 c1,E a2 m2 c2,G g CL.length cap,E a4 m4 c4])) (aN (t:=47) Tryz.results133 _ _ _ rfl ?_ ?_ dF fu) rfl ?_;·go_simp
 ·go_simp
 exact⟨_,rfl,(ho1.out.2.upto (aP (ax.refl (w.heap.size+1+1) _) _) aa).weaken aa,ai bw.out aa _⟩
def ia(o:Oq)(l:Int×List Nat):Bool:=if o.k=1 then decide (l.1=0)&&decide (l.2.length=0)else if o.k=2 then decide (l.1=0)else true
theorem PP(S:Nat)(h0:1≤S)(h1:S≤8)(o:Oq)(hf:E9 S o)(CV:Array Value)(hn:CV.size=13)(ho:bB CV=true)(CL:List (Array Value))(b:Int)(a:Option Addr)(m c:Nat)(l:List Nat)(hl:l.length=m)(k:Nat)(hlk:o.lk=k)(hk:CL[k]? =some #[.int .i64 b,.slice a m c])(vL:Value)(who:Int)(w:World)(h:Sl w vL 2 CL):Calls Tryz.prog 82 #[.agg (#[inn,out,E a1 m1 c1,E a2 m2 c2,E a3 S c3,vL]),.agg (oC o CV),who] w fun e w'=>e= .returned (.bool (ia o (b,l)))∧Below w.heap.size w w':=by
 have HL:=Lib.hid (fun(W:World)(b:Below w.heap.size w W)=>Mg (inn:=inn) (out:=out) (a1:=a1) (m1:=m1) (c1:=c1) (a2:=a2) (m2:=m2) (c2:=c2) (a3:=a3) (m3:=S) (c3:=c3) k vL CL _ hk W (h.below b));have HR:=Lib.hid (fun(W:World)=>Ou S h0 h1 o hf CV hn ho W);obtain⟨aL,cL,rfl,-⟩:=h;obtain⟨v1,v2,v3,v4,v5,v6,v7,v8,v9,v10,v11,v12,v13,rfl,hv⟩:=km hn ho;obtain⟨ok,olk,oa,ob,oc,ox,oy,ov,om⟩:=o;have hkk:ok=1∨ok=2∨ok=3∨ok=4∨ok=5∨ok=6∨ok=7∨ok=8:=by obtain⟨_,_,hf⟩:=hf;simp only at hf;omega
 simp only at hlk;subst hlk hl;clear hf hk hn ho;have hm:=Classical.em (l.length=0);have hb:=Classical.em (b=0);rw[wN]at*;rcases hkk with rfl|rfl|rfl|rfl|rfl|rfl|rfl|rfl;rotate_left 2;all_goals try(clear hm hb;go_enter Tryz.func82,Tryz.ntmps82;go_wp2_with(first|(go_at_call 127;refine(HR.out _).mono ?_;rintro e w1⟨rfl,hb⟩;have hk1:=aw.mk hb;have xx:=cZ hk1.out;have zz:=zs w.heap.size w1.heap.size;clear hb)|(go_at_call 83;refine(HL.out _ (bY)).mono ?_;rintro e w2⟨rfl,hb⟩;have hk2:=aw.mk hb;have xxb:=cZ hk2.out;have zzb:=zs w.heap.size w2.heap.size;clear hb));go_ret;exact⟨rfl,bY⟩;done)
 all_goals clear hm
 all_goals(rcases hb with rfl|hb<;>rcases l with _|⟨x,l⟩)
 all_goals try have hx:¬((l.length:Int)+1=0):=aa
 all_goals(go_enter Tryz.func82,Tryz.ntmps82;go_wp2_with(first|(go_at_call 127;refine(HR.out _).mono ?_;rintro e w1⟨rfl,hb⟩;have hk1:=aw.mk hb;have xx:=cZ hk1.out;have zz:=zs w.heap.size w1.heap.size;clear hb)|(go_at_call 83;refine(HL.out _ (bY)).mono ?_;rintro e w2⟨rfl,hb⟩;have hk2:=aw.mk hb;have xxb:=cZ hk2.out;have zzb:=zs w.heap.size w2.heap.size;clear hb));go_ret;exact⟨by simp[ia, *];try omega,bY⟩)
end
theorem yV{p:Prop}(h:PQ p:=by have HB:=Bx.mono (g:=w.heap.size) (L:=[(47,6,#[m.inn,m.out,E a1 m1 c1,E a2 m2 c2,E a3 m3 c3,E a4 m4 c4]),(105,21,#[I 7,lk,I 1,b,c,x,y,v1,v2,v3,v4,v5,v6,v7,v8,v9,v10,v11,v12,v13,om]),(47,6,#[Z,Z,V,V,V,V]),(103,13,#[Z,F,U,U,Z,F,Z,Z,Z,Z,Z,V,V])]) hS1.out dY ay;exact pq (HB)):p:=h
theorem yW{p:Prop}(h:PQ p:=by have HB:=Bx.mono (g:=w.heap.size) (L:=[(47,6,#[m.inn,m.out,E a1 m1 c1,E a2 m2 c2,E a3 m3 c3,E a4 m4 c4]),(105,21,#[I 7,lk,I 2,b,c,x,y,v1,v2,v3,v4,v5,v6,v7,v8,v9,v10,v11,v12,v13,om]),(47,6,#[Z,Z,V,V,V,V]),(103,13,#[Z,F,U,U,Z,F,Z,Z,Z,Z,Z,V,V])]) hS1.out dY ay;exact pq (HB)):p:=h
theorem oV{p:Prop}(h:p:=by obtain⟨x1,x2,x3,x4,x5,x6,x7,x8,x9,x10⟩:=dJ hS.out;(try simp at x9);have y9:=fun g h=>Nat.le_of_lt (x10 g h);(try have z0:w.heap.size<W.heap.size:=aa);(try have u0:w.heap.size<W.heap.size+1:=aa);(try have v0:¬(w.heap.size=W.heap.size):=aa);(try have z1:w.heap.size+1<W.heap.size:=aa);(try have u1:w.heap.size+1<W.heap.size+1:=aa);(try have v1:¬(w.heap.size+1=W.heap.size):=aa);(try have z2:w.heap.size+1+1<W.heap.size:=aa);(try have u2:w.heap.size+1+1<W.heap.size+1:=aa);(try have v2:¬(w.heap.size+1+1=W.heap.size):=aa);go_simp;try first|with_reducible rfl):p:=h
theorem zG{p:Prop}(h:p:=by
 simp only[Bx,Bo]at HB;go_wp2;refine bodyPost_ret (v:=.tuple #[.agg (#[m.inn,m.out,E a1 m1 c1,E a2 m2 c2,E a3 m3 c3,E a4 m4 c4]),.agg (#[Z,F,U,U,Z,F,Z,Z,Z,Z,Z,V,V])]) (fx (t:=47) (t':=103) Tryz.results91 _ _ _ _ rfl rfl ?_ ?_ dF fu ?_ ?_ cy ea) rfl ?_;·go_simp
 ·go_simp
 ·go_simp
 ·(first|(go_simp;done)|(go_simp;rfl))
 exact⟨rfl,bY⟩):p:=h
structure Fb(S:Nat)(m:Mm):Prop where
 bn:∀l,m.bn=some l→l.length≤100000
 bk:∀l,m.bk=some l→l.length≤100000
 sh:m.sh.length=S
 lk:m.lk.length=S+2
 sl:∀x∈m.sh,x.2.length≤900
 sr:∀x∈m.lk,x.2.Pairwise (·≤·)∧x.2.length≤80000
def pZ(m:Mm)(a b c:Int):Vl:=if a=1 then⟨m.inn,zP,none,none⟩else if a=2 then⟨m.out,zP,none,none⟩else if a=3 then⟨0,zP,m.bn,none⟩else if a=4 then⟨0,zP,none,m.bk⟩else if a=5 then⟨(m.sh.getD b.toNat (0,[])).1,zP,none,none⟩else⟨0,(m.sh.getD b.toNat (0,[])).2.getD c.toNat zP,none,none⟩
theorem wj{C:Array Value}(hn:C.size=10)(h1:bB C=true):∃v1 v2 v3 v4 v5 v6 v7 v8 v9 v10:Value,C=#[v1,v2,v3,v4,v5,v6,v7,v8,v9,v10]∧v1.oneCell'=true∧v2.oneCell'=true∧v3.oneCell'=true∧v4.oneCell'=true∧v5.oneCell'=true∧v6.oneCell'=true∧v7.oneCell'=true∧v8.oneCell'=true∧v9.oneCell'=true∧v10.oneCell'=true:=by
 obtain⟨l⟩:=C;match l,hn with
  |[v1,v2,v3,v4,v5,v6,v7,v8,v9,v10],_=>simp only[bW,bi,bF,Bool.and_eq_true,and_true]at h1;exact⟨v1,v2,v3,v4,v5,v6,v7,v8,v9,v10,rfl,h1⟩
theorem uS{W:World}{v:Value}{L:List (Array Value)}(h:Sl W v 10 L)(k:Nat):(L.getD k zP).size=10∧bB (L.getD k zP)=true:=by
 rw[List.getD_eq_getElem?_getD];cases e:L[k]? with
  |none=>exact⟨rfl,rfl⟩
  |some D=>exact⟨h.sizes D (List.mem_of_getElem? e),h.ones D (List.mem_of_getElem? e)⟩
theorem jJ{α:Type}{P:World→Array Value→α→Prop}{W:World}{L:List (Array Value)}{xs:List α}(h:i5 P W L xs){k:Nat}(hk:k<xs.length)(d:α):∃C,L[k]? =some C∧P W C (xs.getD k d):=by obtain⟨C,h1,h2⟩:=h.at (List.getElem?_eq_getElem hk);exact⟨C,h1,by rw[List.getD_eq_getElem?_getD,List.getElem?_eq_getElem hk];exact h2⟩
theorem Kp.setRow{R:Nat→Prop}{W:World}{T:Nat}{C:Array Value}(hT:¬R T):Kp R W (W.setRow T C):=Kp.upto (aP (ax.refl T W) C) hT
theorem jz(R:Nat→Prop)(W:World)(n:Nat):So R W V n none:=rfl
theorem PO(S:Nat){R:Nat→Prop}(m:Mm)(hm:Fb S m)(a b c:Int)(hp:My S a b c)(M:Array Value)(w:World)(h:o5 R w M m):Calls Tryz.prog 89 #[.agg M,.agg #[a,b,c]] w fun e w'=>∃CV,e= .returned (.agg CV)∧jD (w.heap.size≤·) w' CV (pZ m a b c)∧Below w.heap.size w w':=by
 obtain⟨sb,sk,vS,vL,rfl,h1,h2,h3,h4⟩:=h;have HB:=Lib.hid (fun(W:World)(k:Below w.heap.size w W)=>ye sb m.bn hm.bn W (h1.keep (Kp.below k) fun _ h=>h));have HK:=Lib.hid (fun(W:World)(k:Below w.heap.size w W)=>rx sk m.bk hm.bk W (h2.keep (Kp.below k) fun _ h=>h));obtain⟨a1,m1,c1,rfl⟩:=h1.shape;obtain⟨a2,m2,c2,rfl⟩:=h2.shape;obtain⟨a4,c4,rfl⟩:=h4.shape;obtain⟨CS,⟨hs,-⟩,he⟩:=h3;have hsh:=hm.sh;have hSl:CS.length=S:=he.1.trans hm.sh;clear h1 h2 h4;rcases hp with rfl|rfl|rfl|rfl|⟨rfl,p0,pS⟩|⟨rfl,p0,pS,i0⟩;·
  obtain⟨a3,c3,rfl,-⟩:=hs;clear he;go_enter Tryz.func89,Tryz.ntmps89;go_wp2;refine bodyPost_ret (v:=.agg (#[m.inn,F,U,U,Z,F,Z,Z,Z,Z,Z,V,V])) (aN (t:=103) Tryz.results89 _ _ _ rfl ?_ ?_ cy ea) rfl ?_;·go_simp
  ·go_simp
  exact⟨_,rfl,⟨_,_,rfl,rfl,rfl,jz _ _ _,jz _ _ _⟩,nO⟩
 ·obtain⟨a3,c3,rfl,-⟩:=hs;clear he;go_enter Tryz.func89,Tryz.ntmps89;go_wp2;refine bodyPost_ret (v:=.agg (#[m.out,F,U,U,Z,F,Z,Z,Z,Z,Z,V,V])) (aN (t:=103) Tryz.results89 _ _ _ rfl ?_ ?_ cy ea) rfl ?_;·go_simp
  ·go_simp
  exact⟨_,rfl,⟨_,_,rfl,rfl,rfl,jz _ _ _,jz _ _ _⟩,nO⟩
 ·obtain⟨a3,c3,rfl,-⟩:=hs;clear he;go_enter Tryz.func89,Tryz.ntmps89;go_wp2_with(go_at_call 38;refine(HB.out _ bY).mono ?_;rintro e w2⟨v2,rfl,ho,hb⟩;have HO:=Lib.hid ho;obtain⟨av,nv,cv,rfl⟩:=ho.shape;have hk2:=aw.mk hb;have xxb:=cZ hk2.out;have zzb:=zs w.heap.size w2.heap.size;clear hb ho);refine bodyPost_ret (v:=.agg (#[Z,F,U,U,Z,F,Z,Z,Z,Z,Z,E av nv cv,V])) (aN (t:=103) Tryz.results89 _ _ _ rfl ?_ ?_ cy ea) rfl ?_;·go_simp
  ·go_simp
  exact⟨_,rfl,⟨_,_,rfl,rfl,rfl,HO.out.keep (Kp.setRow uF) (fun q hq=>by simp at hq⊢;omega),jz _ _ _⟩,bY⟩
 ·obtain⟨a3,c3,rfl,-⟩:=hs;clear he;go_enter Tryz.func89,Tryz.ntmps89;go_wp2_with(go_at_call 39;refine(HK.out _ bY).mono ?_;rintro e w2⟨v2,rfl,ho,hb⟩;have HO:=Lib.hid ho;obtain⟨av,nv,cv,rfl⟩:=ho.shape;have hk2:=aw.mk hb;have xxb:=cZ hk2.out;have zzb:=zs w.heap.size w2.heap.size;clear hb ho);refine bodyPost_ret (v:=.agg (#[Z,F,U,U,Z,F,Z,Z,Z,Z,Z,V,E av nv cv])) (aN (t:=103) Tryz.results89 _ _ _ rfl ?_ ?_ cy ea) rfl ?_;·go_simp
  ·go_simp
  exact⟨_,rfl,⟨_,_,rfl,rfl,rfl,jz _ _ _,HO.out.keep (Kp.setRow uF) (fun q hq=>by simp at hq⊢;omega)⟩,bY⟩
 ·obtain⟨bn,rfl⟩:=Int.eq_ofNat_of_zero_le p0;obtain⟨D,hk,v,rfl,hv⟩:=jJ he (k:=bn) aa (0,[]);obtain⟨g,o,cL,rfl,hg,e1,e2,e3,e4⟩:=eC hs hk;have hc:w.cell? ⟨g,o+bn*2,none⟩=some (.int .i64 (m.sh.getD bn (0,[])).1):=by have:=iV e1 (k:=0) aa;rw[e2]at this;simpa[cF]using this
  have n3:(bn:Int)<(CS.length:Int):=aa;have n4:0≤(bn:Int):=aa;have g1:g<w.heap.size+1:=aa;have g2:g<w.heap.size+1+1:=aa;have g3:g<w.heap.size+1+1+1:=aa;clear hs he hk e2;go_enter Tryz.func89,Tryz.ntmps89;go_wp2;refine bodyPost_ret (v:=.agg (#[I (m.sh.getD bn (0,[])).1,F,U,U,Z,F,Z,Z,Z,Z,Z,V,V])) (aN (t:=103) Tryz.results89 _ _ _ rfl ?_ ?_ cy ea) rfl ?_;·go_simp
  ·go_simp
  exact⟨_,rfl,⟨_,_,rfl,rfl,rfl,jz _ _ _,jz _ _ _⟩,nO⟩
 ·obtain⟨bn,rfl⟩:=Int.eq_ofNat_of_zero_le p0;obtain⟨cn,rfl⟩:=Int.eq_ofNat_of_zero_le i0;obtain⟨D,hk,v,rfl,hv⟩:=jJ he (k:=bn) aa (0,[]);obtain⟨g,o,cL,rfl,hg,e1,e2,e3,e4⟩:=eC hs hk;obtain⟨d1,d2,d3,d4,d5,d6,d7,d8,d9,d10,hD,hd⟩:=wj (uS hv.1 cn).1 (uS hv.1 cn).2;have HS:=Lib.hid (fun(W:World)(k:Below w.heap.size w W)=>PV (m.sh.getD bn (0,[])).1 cn v _ W (hv.1.below k));rw[hD]at HS;have hL:pZ m 6 (bn:Int) (cn:Int)=⟨0,#[d1,d2,d3,d4,d5,d6,d7,d8,d9,d10],none,none⟩:=by rw[←hD];rfl
  rw[hL];have n3:(bn:Int)<(CS.length:Int):=aa;have n4:0≤(bn:Int):=aa;have g1:g<w.heap.size+1:=aa;have g2:g<w.heap.size+1+1:=aa;have g3:g<w.heap.size+1+1+1:=aa;obtain⟨a,cap,rfl,-⟩:=hv.1;clear hs he hk hv;go_enter Tryz.func89,Tryz.ntmps89;go_wp2_with fail;refine kD [0,1,2,3,4,5,6,7,8] [9,10] af af (fun _ _ d _ _ h=>bo) ?_;simp only[PL];repeat
   (
    first|go_big_quiet_skip|
     (
      go_big_quiet_want;apply bp;·intro W hS;obtain⟨x1,x2,x3,x4,x5,x6,x7,x8,x9,x10⟩:=dJ hS.out;(try simp at x9);have y9:=fun g h=>Nat.le_of_lt (x10 g h);(try have z0:w.heap.size<W.heap.size:=aa);(try have u0:w.heap.size<W.heap.size+1:=aa);(try have v0:¬(w.heap.size=W.heap.size):=aa);(try have z1:w.heap.size+1<W.heap.size:=aa);(try have u1:w.heap.size+1<W.heap.size+1:=aa);(try have v1:¬(w.heap.size+1=W.heap.size):=aa);(try have z2:w.heap.size+1+1<W.heap.size:=aa);(try have u2:w.heap.size+1+1<W.heap.size+1:=aa);(try have v2:¬(w.heap.size+1+1=W.heap.size):=aa);go_simp;try first|with_reducible rfl|(go_at_call 132;refine(HS.out _ (hS.since bY aF)).mono ?_;rintro e w'⟨rfl,hb⟩;exact⟨rfl,cP hS hb⟩)
      go_big_quiet_on;try simp only[PT]))
  refine wpQuiet_nil ?_;intro w1 hS1;obtain⟨x1a,x2a,x3a,x4a,x5a,x6a,x7a,x8a,x9a,x10a⟩:=dJ hS1.out;(try simp at x9a);have y9a:=fun g h=>Nat.le_of_lt (x10a g h);(try have z0a:w.heap.size<w1.heap.size:=aa);(try have u0a:w.heap.size<w1.heap.size+1:=aa);(try have v0a:¬(w.heap.size=w1.heap.size):=aa);(try have z1a:w.heap.size+1<w1.heap.size:=aa);(try have u1a:w.heap.size+1<w1.heap.size+1:=aa);(try have v1a:¬(w.heap.size+1=w1.heap.size):=aa);(try have z2a:w.heap.size+1+1<w1.heap.size:=aa);(try have u2a:w.heap.size+1+1<w1.heap.size+1:=aa);(try have v2a:¬(w.heap.size+1+1=w1.heap.size):=aa);go_wp2;refine bodyPost_ret (v:=.agg (#[Z,d1,d2,d3,d4,d5,d6,d7,d8,d9,d10,V,V])) (aN (t:=103) Tryz.results89 _ _ _ rfl ?_ ?_ cy ea) rfl ?_;·go_simp
  ·go_simp
  exact⟨_,rfl,⟨_,_,rfl,rfl,by simp[bW,bi,bF,hd],jz _ _ _,jz _ _ _⟩,bY⟩
def dD(m:Mm)(o:Oq):Mm×Int:=if o.a=2 then(if m.out=o.x then({m with out:=o.y},1)else(m,0))else(if m.inn=o.x then({m with inn:=o.y},1)else(m,0))
theorem PX(m:Mm)(o:Oq)(hk:o.k=7)(ha:o.a=1∨o.a=2)(CV:Array Value)(hn:CV.size=13)(ho:bB CV=true)(a1 a2 a3 a4:Option Addr)(m1 c1 m2 c2 m3 c3 m4 c4:Nat)(w:World):Calls Tryz.prog 91 #[.agg (#[m.inn,m.out,E a1 m1 c1,E a2 m2 c2,E a3 m3 c3,E a4 m4 c4]),.agg (oC o CV)] w fun e w'=>e= .returned (.tuple #[.agg (#[I (dD m o).1.inn,I (dD m o).1.out,E a1 m1 c1,E a2 m2 c2,E a3 m3 c3,E a4 m4 c4]),.agg (vC (dD m o).2 zP V V)])∧Below w.heap.size w w':=by
 obtain⟨v1,v2,v3,v4,v5,v6,v7,v8,v9,v10,v11,v12,v13,rfl,hv⟩:=km hn ho;obtain⟨k,lk,a,b,c,x,y,v,om⟩:=o;simp only at hk ha;subst hk;rw[wN];rcases ha with rfl|rfl;·
  by_cases hx:m.inn=x;·
   have hs:dD m ⟨7,lk,1,b,c,x,y,v,om⟩=({m with inn:=y},1):=by simp[dD,hx]
   rw[hs];simp only[vC,zP];go_enter Tryz.func91,Tryz.ntmps91;go_wp2_with fail;refine bH af af ?_;repeat
    (
     first|go_big_quiet_skip|
      (
       go_big_quiet_want;apply bp;·intro W hS;exact oV
       go_big_quiet_on;try simp only[PT]))
   refine wpQuiet_nil ?_;intro w1 hS1;obtain⟨x1a,x2a,x3a,x4a,x5a,x6a,x7a,x8a,x9a,x10a⟩:=dJ hS1.out;(try simp at x9a);have y9a:=fun g h=>Nat.le_of_lt (x10a g h);(try have z0a:w.heap.size<w1.heap.size:=aa);(try have u0a:w.heap.size<w1.heap.size+1:=aa);(try have v0a:¬(w.heap.size=w1.heap.size):=aa);(try have z1a:w.heap.size+1<w1.heap.size:=aa);(try have u1a:w.heap.size+1<w1.heap.size+1:=aa);(try have v1a:¬(w.heap.size+1=w1.heap.size):=aa);(try have z2a:w.heap.size+1+1<w1.heap.size:=aa);(try have u2a:w.heap.size+1+1<w1.heap.size+1:=aa);(try have v2a:¬(w.heap.size+1+1=w1.heap.size):=aa);have HB:=yV;simp only[Bx,Bo]at HB;go_wp2;refine bodyPost_ret (v:=.tuple #[.agg (#[y,m.out,E a1 m1 c1,E a2 m2 c2,E a3 m3 c3,E a4 m4 c4]),.agg (#[I 1,F,U,U,Z,F,Z,Z,Z,Z,Z,V,V])]) (fx (t:=47) (t':=103) Tryz.results91 _ _ _ _ rfl rfl ?_ ?_ dF fu ?_ ?_ cy ea) rfl ?_;·go_simp
   ·go_simp
   ·go_simp
   ·(first|(go_simp;done)|(go_simp;rfl))
   exact⟨rfl,bY⟩
  ·have hs:dD m ⟨7,lk,1,b,c,x,y,v,om⟩=(m,0):=by simp[dD,hx]
   rw[hs];simp only[vC,zP];go_enter Tryz.func91,Tryz.ntmps91;go_wp2_with fail;refine bH af af ?_;repeat
    (
     first|go_big_quiet_skip|
      (
       go_big_quiet_want;apply bp;·intro W hS;exact oV
       go_big_quiet_on;try simp only[PT]))
   refine wpQuiet_nil ?_;intro w1 hS1;obtain⟨x1a,x2a,x3a,x4a,x5a,x6a,x7a,x8a,x9a,x10a⟩:=dJ hS1.out;(try simp at x9a);have y9a:=fun g h=>Nat.le_of_lt (x10a g h);(try have z0a:w.heap.size<w1.heap.size:=aa);(try have u0a:w.heap.size<w1.heap.size+1:=aa);(try have v0a:¬(w.heap.size=w1.heap.size):=aa);(try have z1a:w.heap.size+1<w1.heap.size:=aa);(try have u1a:w.heap.size+1<w1.heap.size+1:=aa);(try have v1a:¬(w.heap.size+1=w1.heap.size):=aa);(try have z2a:w.heap.size+1+1<w1.heap.size:=aa);(try have u2a:w.heap.size+1+1<w1.heap.size+1:=aa);(try have v2a:¬(w.heap.size+1+1=w1.heap.size):=aa);have HB:=yV;exact zG
 ·by_cases hx:m.out=x;·
   have hs:dD m ⟨7,lk,2,b,c,x,y,v,om⟩=({m with out:=y},1):=by simp[dD,hx]
   rw[hs];simp only[vC,zP];go_enter Tryz.func91,Tryz.ntmps91;go_wp2_with fail;refine bH af af ?_;repeat
    (
     first|go_big_quiet_skip|
      (
       go_big_quiet_want;apply bp;·intro W hS;exact oV
       go_big_quiet_on;try simp only[PT]))
   refine wpQuiet_nil ?_;intro w1 hS1;obtain⟨x1a,x2a,x3a,x4a,x5a,x6a,x7a,x8a,x9a,x10a⟩:=dJ hS1.out;(try simp at x9a);have y9a:=fun g h=>Nat.le_of_lt (x10a g h);(try have z0a:w.heap.size<w1.heap.size:=aa);(try have u0a:w.heap.size<w1.heap.size+1:=aa);(try have v0a:¬(w.heap.size=w1.heap.size):=aa);(try have z1a:w.heap.size+1<w1.heap.size:=aa);(try have u1a:w.heap.size+1<w1.heap.size+1:=aa);(try have v1a:¬(w.heap.size+1=w1.heap.size):=aa);(try have z2a:w.heap.size+1+1<w1.heap.size:=aa);(try have u2a:w.heap.size+1+1<w1.heap.size+1:=aa);(try have v2a:¬(w.heap.size+1+1=w1.heap.size):=aa);have HB:=yW;simp only[Bx,Bo]at HB;go_wp2;refine bodyPost_ret (v:=.tuple #[.agg (#[m.inn,y,E a1 m1 c1,E a2 m2 c2,E a3 m3 c3,E a4 m4 c4]),.agg (#[I 1,F,U,U,Z,F,Z,Z,Z,Z,Z,V,V])]) (fx (t:=47) (t':=103) Tryz.results91 _ _ _ _ rfl rfl ?_ ?_ dF fu ?_ ?_ cy ea) rfl ?_;·go_simp
   ·go_simp
   ·go_simp
   ·(first|(go_simp;done)|(go_simp;rfl))
   exact⟨rfl,bY⟩
  ·have hs:dD m ⟨7,lk,2,b,c,x,y,v,om⟩=(m,0):=by simp[dD,hx]
   rw[hs];simp only[vC,zP];go_enter Tryz.func91,Tryz.ntmps91;go_wp2_with fail;refine bH af af ?_;repeat
    (
     first|go_big_quiet_skip|
      (
       go_big_quiet_want;apply bp;·intro W hS;exact oV
       go_big_quiet_on;try simp only[PT]))
   refine wpQuiet_nil ?_;intro w1 hS1;obtain⟨x1a,x2a,x3a,x4a,x5a,x6a,x7a,x8a,x9a,x10a⟩:=dJ hS1.out;(try simp at x9a);have y9a:=fun g h=>Nat.le_of_lt (x10a g h);(try have z0a:w.heap.size<w1.heap.size:=aa);(try have u0a:w.heap.size<w1.heap.size+1:=aa);(try have v0a:¬(w.heap.size=w1.heap.size):=aa);(try have z1a:w.heap.size+1<w1.heap.size:=aa);(try have u1a:w.heap.size+1<w1.heap.size+1:=aa);(try have v1a:¬(w.heap.size+1=w1.heap.size):=aa);(try have z2a:w.heap.size+1+1<w1.heap.size:=aa);(try have u2a:w.heap.size+1+1<w1.heap.size+1:=aa);(try have v2a:¬(w.heap.size+1+1=w1.heap.size):=aa);have HB:=yW;exact zG
section
attribute[local go_sem↓]bI bu dN dw aZ aW bv bj
attribute[local go_sem]bT cd eB dP lQ kL bN bz l5 mF ik im ij il nZ l4 lZ mH kP kO jp mD gL jh ky lJ jW qQ bW bF bi jP iq iJ gJ kt kF Qs Qt Qu List.take_succ_cons List.take_zero List.drop_succ_cons List.drop_zero List.cons_append List.nil_append List.length_cons List.length_nil List.size_toArray
theorem px{p:Prop}(h:p:=by go_enter Tryz.func118,Tryz.ntmps118;go_wp2_with(go_at_call 176;refine(KL _ _).mono ?_;rintro e w'⟨rfl,rfl⟩);go_ret;exact⟨rfl,rfl⟩):p:=h
theorem py{p:Prop}(h:p:=by go_enter Tryz.func175,Tryz.ntmps175;go_wp2_with(go_at_call 232;refine(KM _ _).mono ?_;rintro e w'⟨rfl,rfl⟩);go_ret;exact⟨rfl,rfl⟩):p:=h
theorem fU{k:IntKind}{a b:Int}(h:a=b):Ending.returned (.int k a)= .returned (.int k b):=by rw[h]
theorem ks:(Tryz.prog.info? 34).map (·.size)=some 3:=af
theorem rc(w:World):(isAgg 34).run Tryz.prog w= .ok true w:=by unfold isAgg;rw[Sem.run_bind,run_underlying Tryz.underlying34 w];rfl
theorem tp(p:Int)(w:World):Calls Tryz.prog 245 #[p] w fun e w'=>e= .returned (.agg (#[I 5,p,Z]))∧w'=w.alloc (.cells (#[I 5,p,Z]) 101):=by go_enter Tryz.func245,Tryz.ntmps245;go_wp2;exact bodyPost_ret (v:=.agg _) (aN (t:=101) Tryz.results245 _ _ _ rfl dq dq ji wd) rfl ⟨rfl,rfl⟩
theorem tq(p i:Int)(w:World):Calls Tryz.prog 246 #[p,i] w fun e w'=>e= .returned (.agg (#[I 6,p,i]))∧w'=w.alloc (.cells (#[I 6,p,i]) 101):=by go_enter Tryz.func246,Tryz.ntmps246;go_wp2;exact bodyPost_ret (v:=.agg _) (aN (t:=101) Tryz.results246 _ _ _ rfl dq dq ji wd) rfl ⟨rfl,rfl⟩
theorem zo(k:Int)(w:World):Calls Tryz.prog 139 #[k] w fun e w'=>e= .returned (.agg (#[k,F,U,U,Z,Z,Z,V]))∧w'=w.alloc (.cells (#[k,F,U,U,Z,Z,Z,V]) 64):=by go_enter Tryz.func139,Tryz.ntmps139;go_wp2;exact bodyPost_ret (v:=.agg _) (aN (t:=64) Tryz.results139 _ _ _ rfl dq dq fi ic) rfl ⟨rfl,rfl⟩
theorem pd(n:Int)(h0:1≤n)(h1:n≤8)(w:World):Calls Tryz.prog 200 #[n] w fun e w'=>e= .returned n∧w=w':=by go_enter Tryz.func200,Tryz.ntmps200;go_wp2;go_ret;exact⟨fU aa,rfl⟩
theorem Cq(n:Int)(h0:0≤n)(h1:n≤1099511627776)(w:World):Calls Tryz.prog 120 #[n] w fun e w'=>e= .returned n∧w=w':=by go_enter Tryz.func120,Tryz.ntmps120;go_wp2;go_ret;exact⟨fU aa,rfl⟩
theorem KL(n:Int)(w:World):Calls Tryz.prog 176 #[n] w fun e w'=>e= .returned F∧w=w':=by go_enter Tryz.func176,Tryz.ntmps176;go_wp2;go_ret;exact⟨ay,rfl⟩
theorem KM(n:Int)(w:World):Calls Tryz.prog 232 #[J n] w fun e w'=>e= .returned F∧w=w':=by go_enter Tryz.func232,Tryz.ntmps232;go_wp2;go_ret;exact⟨ay,rfl⟩
def fh(a b:Int):Int:=if a<b then-1 else if b<a then 1 else 0
theorem Cc{a b:Int}(h:a<b):fh a b=-1:=by unfold fh;rw[if_pos h]
theorem Cb{a b:Int}(h:b<a):fh a b=1:=by unfold fh;rw[if_neg aa,if_pos h]
theorem ws{a b:Int}(h:a=b):fh a b=0:=by unfold fh;rw[if_neg aa,if_neg aa]
theorem jd(a b:Int)(w:World):Calls Tryz.prog 118 #[a,b] w fun e w'=>e= .returned (I (fh a b))∧w=w':=by
 by_cases h1:a<b;·rw[Cc h1];exact px
 ·by_cases h2:b<a;·rw[Cb h2];exact px
  ·rw[ws aa];have h3:¬(a>b):=aa;exact px
theorem lX(a b:Int)(w:World):Calls Tryz.prog 175 #[J a,J b] w fun e w'=>e= .returned (I (fh a b))∧w=w':=by
 by_cases h1:a<b;·rw[Cc h1];exact py
 ·by_cases h2:b<a;·rw[Cb h2];exact py
  ·rw[ws aa];have h3:¬(a>b):=aa;exact py
theorem AX(hi lo:Int)(w:World):Calls Tryz.prog 174 #[.agg (#[F,J hi,J lo])] w fun e w'=>e= .returned Z∧w'=w.alloc (.cells (#[F,J hi,J lo]) 34):=by go_enter Tryz.func174,Tryz.ntmps174;go_wp2;go_ret;exact⟨rfl,rfl⟩
theorem I2(n:Int)(w:World):Calls Tryz.prog 234 #[.int .u32 n] w fun e w'=>e= .returned (.agg #[F,U,J (IntKind.u64.wrap n)])∧w'=w.alloc (.cells #[F,U,J (IntKind.u64.wrap n)] 34):=by go_enter Tryz.func234,Tryz.ntmps234;go_wp2;exact bodyPost_ret (v:=.agg _) (aN (t:=34) Tryz.results234 _ _ _ rfl dq dq ks rc) rfl ⟨rfl,rfl⟩
theorem Ic(hi lo port t:Int)(h0:0≤t)(h1:t≤1099511627776)(w:World):Calls Tryz.prog 210 #[.agg (#[F,J hi,J lo,port]),Y,t] w fun e w'=>e= .returned (.agg (#[F,J hi,J lo,port,Y,t,Z,t,Z,Z]))∧w'=(w.alloc (.cells (#[F,J hi,J lo,port]) 36)).alloc (.cells (#[F,J hi,J lo,port,Y,t,Z,t,Z,Z]) 75):=by go_enter Tryz.func210,Tryz.ntmps210;go_wp2_with(go_at_call 120;refine(Cq t h0 h1 _).mono ?_;rintro e w'⟨rfl,rfl⟩);exact bodyPost_ret (v:=.agg _) (aN (t:=75) Tryz.results210 _ _ _ rfl dq dq sI FA) rfl ⟨rfl,rfl⟩
def qD:List Int→Int
 |[]=>0
 |a::l=>if a=0 then qD l else a
theorem H5{L:List Int}{k:Nat}(h:k<L.length):qD (L.drop k)=if L[k]=0 then qD (L.drop (k+1))else L[k]:=by rw[List.drop_eq_getElem_cons h];rfl
theorem N3(L:List Int)(g cap:Nat)(w:World)(hm:L.length≤1000)(hc:∀k(h:k<L.length),w.cell? ⟨g,k,none⟩=some (.int .i64 L[k])):Calls Tryz.prog 116 #[G g L.length cap] w fun e w'=>e= .returned (I (qD L))∧w=w':=by
 have HC:=Lib.hid hc;clear hc;go_enter Tryz.func116,Tryz.ntmps116;go_wp2;go_loop[8](fun vi=>∃k:Nat,k≤L.length∧qD L=qD (L.drop k)∧vi= .int .i64 k)(fun i=>L.length-(intOf i).toNat);case atStart=>exact⟨0,Nat.zero_le _,ay,rfl⟩
 case round=>
  obtain⟨k,hk,he,rfl⟩:=hrel;by_cases hlt:k<L.length;·
   have hcell:=HC.out k hlt;have Ex:=Lib.hid (H5 hlt);by_cases h0:L[k]=0;·
    go_wp2;go_round;case rel=>exact⟨k+1,aa,by rw[he,Ex.out,if_pos h0],bD⟩
    case measure=>simp[intOf];omega
   ·have hne:(L[k]==0)=false:=by simpa using h0
    go_wp2;go_ret;exact⟨fU (by first|rw[Ex.out,if_neg h0]|rw[he,Ex.out,if_neg h0]),rfl⟩
  ·have e0:qD (L.drop k)=0:=by rw[List.drop_eq_nil_of_le aa];rfl
   go_wp2;go_ret;exact⟨fU (by first|rfl|rw[he,e0]),rfl⟩
end
end Go.Proofs.YtnncjbkepakgpaaGreat
