/- ACCEPTS: the slow way, where nobody may go. AN ACCEPT, as a whole. A TASK's TURN, of an accept. THREE ACCEPTS: the path of their run, reckoned by the kernel. OF NOTHING: mem.New, model.Right, for awake. -/
import Derived.Test.YtnncjbkepakgpaaGreatA45
namespace Go.Proofs.YtnncjbkepakgpaaGreat
open Go.RowKit Qv
set_option linter.unusedVariables false
set_option linter.unusedSimpArgs false
set_option maxRecDepth 100000
set_option maxHeartbeats 1000000
section
attribute[local go_sem high]ah
attribute[local simp high]ah
attribute[local go_sem↓]da cJ dN dw dt db
attribute[local go_sem]dx dc eB dP dT dy
def LM(b:Nat)(vs:List Value):Prop:=∀(i:Nat)(v:Value),vs[i]? =some v→v.ownBlock≠some b
theorem LM.set{b:Nat}{vs:List Value}(h:LM b vs){v:Value}(hv:v.ownBlock≠some b)(j:Nat):LM b (vs.set j v):=fun i u hu=>by
 rw[List.getElem?_set]at hu;split at hu;·
  split at hu;·cases hu;exact hv
  ·cases hu
 ·exact h i u hu
theorem Db(b n:Nat):LM b (List.replicate n V):=fun i v hv=>by
 rw[List.getElem?_replicate]at hv;split at hv;·cases hv;simp[Value.ownBlock]
 ·cases hv
theorem jA.set{W:World}{b:Nat}{vs:List Value}{Ls:List (List Nat)}(h:jA W b vs Ls)(ho:LM b vs){v:Value}{l:List Nat}(hv:Sl W v 10 (l.map aJ))(hb:v.ownBlock≠some b)(j:Nat):jA (W.setCell ⟨b,j,none⟩ v) b (vs.set j v) (Ls.set j l):=by
 have hk:∀{u:Value}{M:List (Array Value)},Sl W u 10 M→u.ownBlock≠some b→Sl (W.setCell ⟨b,j,none⟩ v) u 10 M:=fun hu hn=>hu.upto ((ax.refl b W).set j v) hn;refine⟨h.1.set j v,by rw[List.length_set,List.length_set];exact h.2.1,fun i u m hu hm=>?_⟩;rw[List.getElem?_set]at hu hm;by_cases e:j=i;·
  subst e;by_cases hj:j<vs.length;·simp[hj]at hu;simp[h.2.1▸hj]at hm;subst hu hm;exact hk hv hb
  ·simp[hj]at hu
 ·rw[if_neg e]at hu hm;exact hk (h.2.2 i u m hu hm) (ho i u hu)
theorem Ap{W:World}{b n:Nat}(h:gg W b 55 (List.replicate n V)):jA W b (List.replicate n V) (List.replicate n []):=⟨h,ay,fun i v l hv hl=>by
 rw[List.getElem?_replicate]at hv hl;split at hv;·cases hv;rename_i hi;rw[if_pos hi]at hl;cases hl;exact Sl.nil _ _
 ·cases hv⟩
theorem Dq{α:Type}(l:List α)(a b:α)(m:Nat){j:Nat}(h:j=l.length):(l++List.replicate (m+1) a).set j b=(l++[b])++List.replicate m a:=by subst h;rw[List.set_append_right _ _ (Nat.le_refl _),Nat.sub_self,List.replicate_succ,List.set_cons_zero];simp
theorem jA.keepU{W W':World}{T b:Nat}{vs:List Value}{Ls:List (List Nat)}(h:jA W b vs Ls)(hb:b≠T)(hT:LM T vs)(k:ax T W W'):jA W' b vs Ls:=⟨(k.block b h.1.lt hb).trans h.1,h.2.1,fun i v l h1 h2=>(h.2.2 i v l h1 h2).upto k (hT i v h1)⟩
section
variable{R:Nat→Prop}{T:Nat}{m:Mm}{os l:List Oq}{k:Nat}{ret:Value→World→Prop}{w w1 w':World}{e:Ending}
theorem Cy.last{W:World}{mm:Mm}{pre post:List Oq}{k':Nat}{xs:List (Value×Nat×Option (List (Array Value)))}{bs:List (Nat×TypeId×Nat×Array Value)}(h:Cy R T w W m mm os pre post l k k' xs bs):Cy R T w W m mm os pre (post++[]) l k k' xs bs:=by rw[List.append_nil];exact h
def OS(m:Mm)(S:Nat):List Oq:=o6 S 0++(kX m S 0++(dI 1 0 0::eH S true S))
theorem Lr(most S c:Nat)(h0:1≤S)(h1:S≤8)(n0:0≤m.inn)(n1:m.inn≤1000000)(hm:m.inn≥(most:Int))(ps:List (List Nat))(hps:ps.length=S)(hsh:m.sh=ps.map fun l=>((l.length:Int),l.map aJ))(hcl:Pm.Clear c (ps.getD (prt S c) []))(hpl:ps.flatten.length≤19)(hR:∀q,R q→q<w.heap.size)(h:ft R w T ((ej m (OS m S++l)).take k)):Calls Tryz.prog 142 #[.agg #[most,I 4,S,I 64,I 64,J 1,I 1,I 1,I 1,I 64,I 100,I 100,I 1000,I 2,I 64,I 4,I 1,F,U,J (aM c),I 80,F,U,U,Z,I (Pm.tOf c),Z,F],.iface 280 (H T 0)] w (Cd R T m (OS m S) l k (fun v _=>v= .agg #[I 5,F,U,U,Z,Z,Z,V]) w):=by
 have hlt:=h.lt;have C:=Lib.hid (Cy.start h hR);have HSQ:=Lib.hid (fun W k' l' vs b hA hb hR' h=>Bt (T:=T) (R:=R) (m:=m) (w:=W) (k:=k') (l:=l') most S c b h0 h1 n0 n1 hm ps vs hps hcl hpl hA hb hR' h);have HRD:=Lib.hid (fun(j:Nat)(hj:j<ps.length)W k' l' hR' h=>wT (w:=W) (T:=T) (R:=R) (m:=m) (l:=l') (k:=k') j (ps[j].map aJ) (by rw[hsh,List.getElem?_map,List.getElem?_eq_getElem hj,List.length_map];rfl) (by rw[List.length_map];have:=iG (List.getElem_mem hj);omega) hR' h);have hpsL:=Lib.hid hps;have hfl:=Lib.hid (fun(j:Nat)(hj:j<ps.length)=>(Nat.le_trans (iG (List.getElem_mem hj)) hpl:ps[j].length≤19));have hmk:=run_make_row' (P:=Tryz.prog) 276 55 V 24 Tryz.underlying276 af rfl .i64 .i64 S aa aa;have HMK:=Lib.hid hmk;clear h hm hcl hsh hmk;go_enter Tryz.func142,Tryz.ntmps142;go_wp2_with fail;have HB:=Lib.hid (dY:Bx ((w.alloc (.cells (#[most,I 4,S,I 64,I 64,J 1,I 1,I 1,I 1,I 64,I 100,I 100,I 1000,I 2,I 64,I 4,I 1,F,U,J (aM c),I 80,F,U,U,Z,I (Pm.tOf c),Z,F]) 203)).alloc (.cells (#[Z,F,U,U,Z,Z,Z,V]) 64)) w.heap.size [(203,28,#[most,I 4,S,I 64,I 64,J 1,I 1,I 1,I 1,I 64,I 100,I 100,I 1000,I 2,I 64,I 4,I 1,F,U,J (aM c),I 80,F,U,U,Z,I (Pm.tOf c),Z,F]),(64,8,#[Z,F,U,U,Z,Z,Z,V])]);have C:=Lib.hid ((C.out.below (bY:Below w.heap.size w ((w.alloc (.cells (#[most,I 4,S,I 64,I 64,J 1,I 1,I 1,I 1,I 64,I 100,I 100,I 1000,I 2,I 64,I 4,I 1,F,U,J (aM c),I 80,F,U,U,Z,I (Pm.tOf c),Z,F]) 203)).alloc (.cells (#[Z,F,U,U,Z,Z,Z,V]) 64)))).boxes hlt HB.out);have u0:ax T w ((w.alloc (.cells (#[most,I 4,S,I 64,I 64,J 1,I 1,I 1,I 1,I 64,I 100,I 100,I 1000,I 2,I 64,I 4,I 1,F,U,J (aM c),I 80,F,U,U,Z,I (Pm.tOf c),Z,F]) 203)).alloc (.cells (#[Z,F,U,U,Z,Z,Z,V]) 64)):=ax.of_below bY;have s0:w.heap.size<((w.alloc (.cells (#[most,I 4,S,I 64,I 64,J 1,I 1,I 1,I 1,I 64,I 100,I 100,I 1000,I 2,I 64,I 4,I 1,F,U,J (aM c),I 80,F,U,U,Z,I (Pm.tOf c),Z,F]) 203)).alloc (.cells (#[Z,F,U,U,Z,Z,Z,V]) 64)).heap.size:=aF;generalize((w.alloc (.cells (#[most,I 4,S,I 64,I 64,J 1,I 1,I 1,I 1,I 64,I 100,I 100,I 1000,I 2,I 64,I 4,I 1,F,U,J (aM c),I 80,F,U,U,Z,I (Pm.tOf c),Z,F]) 203)).alloc (.cells (#[Z,F,U,U,Z,Z,Z,V]) 64))=WB at*;have f0:=C.out.c.b;simp only[fg,eQ,Bo]at f0;clear HB;refine cj C.out (sN S h0 h1 C.out.t) (ou S 0) (fun _ _ h=>⟨rfl,h⟩) ?_;rintro v w1 k1 rfl hu1 C;have f1:=C.out.c.b;simp only[fg,eQ,Bo]at f1;clear f0;have hmade:=Lib.hid (gg.made w1 V S 55);have hmk1:=HMK.out w1;have s1:=C.out.c.u.size;have sb1:w.heap.size+1<w1.heap.size:=f1.2.1.2.2.2.2.1;go_wp2;clear hmk1 f1;have C:=Lib.hid (C.out.below (cb:Below w1.heap.size w1 (w1.alloc (.cells (madeCells #[V] S) 55))));have hsB:w1.heap.size<(w1.alloc (.cells (madeCells #[V] S) 55)).heap.size:=ay;generalize(w1.alloc (.cells (madeCells #[V] S) 55))=W1 at*;have hbT:w1.heap.size≠T:=aa;go_loopg[20]S(fun g s20 wr=>∃(j k1:Nat)(pre:List Oq)(vs:List Value),s20= .int .i64 j∧j+g=S∧vs.length=j∧Hid (Cy R T w wr m m (OS m S) pre (kX m g j++(dI 1 0 0::eH S true S)) l k k1 [] (fg w.heap.size [(203,28,#[most,I 4,S,I 64,I 64,J 1,I 1,I 1,I 1,I 64,I 100,I 100,I 1000,I 2,I 64,I 4,I 1,F,U,J (aM c),I 80,F,U,U,Z,I (Pm.tOf c),Z,F]),(64,8,#[Z,F,U,U,Z,Z,Z,V])])∧jA wr w1.heap.size (vs++List.replicate g (.slice none 0 0)) (ps.take j++List.replicate g [])∧LM w1.heap.size (vs++List.replicate g (.slice none 0 0))∧LM T (vs++List.replicate g (.slice none 0 0))∧w1.heap.size<wr.heap.size));case atStart=>exact⟨0,k1,_,[],rfl,aa,rfl,Lib.hid ⟨C.out,by simpa using Ap hmade.out,by simpa using Db _ _,by simpa using Db _ _,hsB⟩⟩
 case round=>
  clear C;obtain⟨j,k1,pre,vs,rfl,hg,hvl,HH⟩:=hrel;have f1:=HH.out.1.c.b;simp only[fg,eQ,Bo]at f1;cases gk with
   |zero=>
    have hj:¬((j:Int)<(S:Int)):=aa;have hjS:ps.take j=ps:=List.take_of_length_le (by have:=hpsL.out;omega);obtain⟨hC,hA,ho1,ho2,hb⟩:=HH.out;simp only[List.replicate_zero,List.append_nil,hjS]at hA ho1 ho2;rw[show kX m 0 j++(dI 1 0 0::eH S true S)=[dI 1 0 0]++eH S true S from rfl]at hC;have C:=Lib.hid hC;have HA:=Lib.hid (fun W(u:ax T wr W)=>hA.keepU hbT ho2 u);clear hC hA ho1 ho2 hjS;go_wp2_with fail;refine cj C.out (HSQ.out _ _ _ vs _ HA.out hb C.out.c.r' C.out.t) (show cx m [dI 1 0 0]=m from rfl) (fun _ _ h=>⟨rfl,h⟩) ?_;rintro v w8 k8 rfl hu8 C;have f8:=C.out.c.b;simp only[fg,eQ,Bo]at f8;clear f1;have sb8:w.heap.size+1<w8.heap.size:=f8.2.1.2.2.2.2.1;go_wp2_with fail;have C:=Lib.hid ((C.out.below (cb:Below w8.heap.size w8 (w8.alloc (.cells #[I 5,F,U,U,Z,Z,Z,V] 64)))).addb (g:=w8.heap.size) C.out.c.t.lt ((dY:Bx (w8.alloc (.cells #[I 5,F,U,U,Z,Z,Z,V] 64)) w8.heap.size [(64,8,#[I 5,F,U,U,Z,Z,Z,V])]).1));have s9:w8.heap.size<(w8.alloc (.cells #[I 5,F,U,U,Z,Z,Z,V] 64)).heap.size:=ay;generalize w8.alloc (.cells #[I 5,F,U,U,Z,Z,Z,V] 64)=W9 at*;have f9:=C.out.c.b;simp only[fg,eQ,Bo]at f9;clear f8;refine cj C.out.last (so S h0 h1 true C.out.last.t) (n8 S true S) (fun _ _ h=>⟨rfl,h⟩) ?_;rintro v w10 k10 rfl hu10 C;have f10:=C.out.c.b;simp only[fg,eQ,Bo]at f10;clear f9;go_wp2;refine bodyPost_ret (v:=.agg #[I 5,F,U,U,Z,Z,Z,V]) (aN (t:=64) Tryz.results142 _ _ _ rfl ?_ ?_ fi ic) rfl ?_;·go_simp
    ·go_simp
    exact(C.out.out (g:=w.heap.size+1) aa).fin _ rfl
   |succ g=>
    have hj:(j:Int)<(S:Int):=aa;have nj:0≤(j:Int):=aa;have hjl:j<ps.length:=by have:=hpsL.out;omega
    have hta:=Lib.hid (List.take_succ_eq_append_getElem hjl);have HRj:=Lib.hid (HRD.out j hjl);have hl19:=hfl.out j hjl;have C:=Lib.hid HH.out.1;have hfm:=Lib.hid (show kX m (g+1) j++(dI 1 0 0::eH S true S)=fp m j++(kX m g (j+1)++(dI 1 0 0::eH S true S))by rw[kX,List.append_assoc]);rw[hfm.out]at C;generalize ps[j]=pj at*;go_wp2_with fail;refine cj C.out (HRj.out _ _ _ C.out.c.r' C.out.t) (gI j) (fun _ _ h=>⟨rfl,h⟩) ?_;rintro v w2 k2 hO hu C;have f2:=C.out.c.b;simp only[fg,eQ,Bo]at f2;obtain⟨a2,cap2,rfl,-⟩:=id hO.sl;rw[List.length_map]at hO⊢;obtain⟨-,hA,hOb,hOT,hbs⟩:=HH.out;have hA2:=Lib.hid (hA.keepU hbT hOT hu);have hvb:(Value.slice a2 pj.length cap2).ownBlock≠some w1.heap.size:=fun e=>by have:=(hO.base e).1;omega
    have hvT:(Value.slice a2 pj.length cap2).ownBlock≠some T:=fun e=>by have:=(hO.base e).1;omega
    have hset:=Lib.hid (hA2.out.set hOb hO.sl hvb j);have hcells:=Lib.hid (hA2.out.1.at'.own);have hjl:(vs++List.replicate (g+1) (Value.slice none 0 0))[j]? =some (.slice none 0 0):=by rw[List.getElem?_append_right aa,show j-vs.length=0 by omega];rfl
    have hcj:w2.cell? ⟨w1.heap.size,j,none⟩=some (.slice none 0 0):=hA2.out.1.at'.cell hjl;have hfj:w2.frozen? ⟨w1.heap.size,j,none⟩=false:=hA2.out.1.at'.frozen j;have HO1:=Lib.hid (hOb.set hvb j);have HO2:=Lib.hid (hOT.set hvT j);have hw2s:w1.heap.size<w2.heap.size:=Nat.lt_of_lt_of_le hbs hu.size;have C:=Lib.hid (C.out.low (cb:Below w1.heap.size w2 (w2.setCell ⟨w1.heap.size,j,none⟩ (E a2 pj.length cap2))) s1 (by simp[fg];omega));clear hA hOb hOT hO hbs hu f1;go_wp2;go_roundg g;case measure=>omega
    case rel=>
     have k1:(vs++List.replicate (g+1) (Value.slice none 0 0)).set j (E a2 pj.length cap2)=(vs++[.slice a2 pj.length cap2])++List.replicate g (Value.slice none 0 0):=Dq vs _ _ g aa;have k3:(ps.take j++List.replicate (g+1) []).set j pj=ps.take (j+1)++List.replicate g []:=by rw[Dq (ps.take j) _ _ g xN,hta.out]
     have hs2:=hset.out;rw[k1,k3]at hs2;have o1:=HO1.out;have o2:=HO2.out;rw[k1]at o1 o2;exact⟨j+1,k2,_,vs++[.slice a2 pj.length cap2],bD,aa,aF,Lib.hid ⟨C.out,hs2,o1,o2,by rw[oE _ _ hcells.out,cX];exact hw2s⟩⟩
end
end
section
attribute[local go_sem high]ah
attribute[local simp high]ah
attribute[local go_sem↓]da cJ dN dw dM dv mT
attribute[local go_sem]dx dc eB dP eA dO
section
variable{R:Nat→Prop}{T:Nat}{m:Mm}{os l:List Oq}{k:Nat}{ret:Value→World→Prop}{w w1 w':World}{e:Ending}
theorem yT{p:Prop}(h:PQ p:=by have HB:=Lib.hid (dY:Bx ((w.alloc (.cells (#[most,I 4,S,I 64,I 64,J 1,I 1,I 1,I 1,I 64,I 100,I 100,I 1000,I 2,I 64,I 4,I 1,F,U,J (aM c),I 80,F,U,U,Z,I (Pm.tOf c),Z,F]) 203)).alloc (.cells (#[Z,F,U,U,Z,Z,Z,V]) 64)) w.heap.size [(203,28,#[most,I 4,S,I 64,I 64,J 1,I 1,I 1,I 1,I 64,I 100,I 100,I 1000,I 2,I 64,I 4,I 1,F,U,J (aM c),I 80,F,U,U,Z,I (Pm.tOf c),Z,F]),(64,8,#[Z,F,U,U,Z,Z,Z,V])]);have C:=Lib.hid ((C.out.below (bY:Below w.heap.size w ((w.alloc (.cells (#[most,I 4,S,I 64,I 64,J 1,I 1,I 1,I 1,I 64,I 100,I 100,I 1000,I 2,I 64,I 4,I 1,F,U,J (aM c),I 80,F,U,U,Z,I (Pm.tOf c),Z,F]) 203)).alloc (.cells (#[Z,F,U,U,Z,Z,Z,V]) 64)))).boxes hlt HB.out);have u0:ax T w ((w.alloc (.cells (#[most,I 4,S,I 64,I 64,J 1,I 1,I 1,I 1,I 64,I 100,I 100,I 1000,I 2,I 64,I 4,I 1,F,U,J (aM c),I 80,F,U,U,Z,I (Pm.tOf c),Z,F]) 203)).alloc (.cells (#[Z,F,U,U,Z,Z,Z,V]) 64)):=ax.of_below bY;have s0:w.heap.size<((w.alloc (.cells (#[most,I 4,S,I 64,I 64,J 1,I 1,I 1,I 1,I 64,I 100,I 100,I 1000,I 2,I 64,I 4,I 1,F,U,J (aM c),I 80,F,U,U,Z,I (Pm.tOf c),Z,F]) 203)).alloc (.cells (#[Z,F,U,U,Z,Z,Z,V]) 64)).heap.size:=aF;exact pq (And.intro HB (And.intro C (And.intro u0 s0)))):p:=h
theorem yU{p:Prop}(h:PQ p:=by have C:=Lib.hid ((C.out.below (cb:Below w5.heap.size w5 (w5.alloc (.cells #[Z,F,U,U,Z,Z,Z,V] 64)))).addb (g:=w5.heap.size) C.out.c.t.lt ((dY:Bx (w5.alloc (.cells #[Z,F,U,U,Z,Z,Z,V] 64)) w5.heap.size [(64,8,#[Z,F,U,U,Z,Z,Z,V])]).1));have s5:w.heap.size+1<w5.heap.size:=f5.2.1.2.2.2.2.1;exact pq (And.intro C s5)):p:=h
def Qm(m:Mm)(n c:Nat)(pl:List Nat):List Oq:=cW 2 0 false::dI 3 0 0::(Q7 m n c pl++[cW 4 0 false])
def QF(m:Mm)(n S:Nat):List Oq:=cW 2 0 false::dI 3 0 0::(P7 m n++(OS m S++[cW 4 0 false]))
theorem Im(n:Nat):cx m (P7 m n)=m:=by have e1:cx m [cW 1 ((2+n:Nat):Int) false]=m:=fm _ _ _ ⟨az,az⟩;have e3:cx m [cW 3 ((2+n:Nat):Int) false]=m:=fm _ _ _ ⟨az,az⟩;unfold P7;rw[show(cW 1 ((2+n:Nat):Int) false::(fp m n++(dI 1 0 0::[cW 3 ((2+n:Nat):Int) false])))=[cW 1 ((2+n:Nat):Int) false]++(fp m n++([dI 1 0 0]++[cW 3 ((2+n:Nat):Int) false]))from rfl,bP,bP,bP,e1,gI,Ck,e3]
theorem IH(S:Nat):cx m (OS m S)=m:=by unfold OS;rw[show(dI 1 0 0::eH S true S)=[dI 1 0 0]++eH S true S from rfl,bP,bP,bP,ou,sZ,Ck,n8]
theorem BL(most S c:Nat)(h0:1≤S)(h1:S≤8)(n0:0≤m.inn)(n1:m.inn≤1000000)(hm:¬(m.inn≥(most:Int)))(hbn:m.bn=none)(ps:List (List Nat))(hps:ps.length=S)(hsh:m.sh=ps.map fun l=>((l.length:Int),l.map aJ))(pl:List Nat)(hpe:ps[prt S c]? =some pl)(hcl:Pm.Clear c (ps.getD (prt S c) []))(hpl:ps.flatten.length≤19)(hR:∀q,R q→q<w.heap.size)(h:ft R w T ((ej m (Qm m (prt S c) c pl++l)).take k)):Calls Tryz.prog 101 #[.agg #[most,I 4,S,I 64,I 64,J 1,I 1,I 1,I 1,I 64,I 100,I 100,I 1000,I 2,I 64,I 4,I 1,F,U,J (aM c),I 80,F,U,U,Z,I (Pm.tOf c),Z,F],.iface 280 (H T 0)] w (Cd R T m (Qm m (prt S c) c pl) l k (fun v _=>v= .agg #[Z,F,U,U,Z,Z,Z,V]) w):=by
 have hlt:=h.lt;have C:=Lib.hid (Cy.start h hR);have hpn:=sU S c h0 h1;have hpn':prt S c<ps.length:=aa;have hgl:ps.getD (prt S c) []=pl:=by rw[List.getD_eq_getElem?_getD,hpe];rfl
 have hpm:pl.length≤19:=Nat.le_trans (iG (List.mem_of_getElem? hpe)) hpl;have HQ:=Lib.hid (fun W k' l' hR' h=>ET (T:=T) (R:=R) (m:=m) (w:=W) (k:=k') (l:=l') most S c h0 h1 n0 n1 hm pl (by rw[hsh,List.getElem?_map,hpe];rfl) aa (hgl▸hcl) hR' h);have HC:=Lib.hid (fun W=>m8 c (Pm.tOf c) aa BV W);have hb3:=Lib.hid (show(fW m (dI 3 0 0)).bn=none from hbn);clear h hm hsh hcl hpl hpe hgl hpm hbn hps;generalize prt S c=n at*;go_enter Tryz.func101,Tryz.ntmps101;go_wp2_with fail;obtain⟨HB,C,u0,s0⟩:=yT;generalize((w.alloc (.cells (#[most,I 4,S,I 64,I 64,J 1,I 1,I 1,I 1,I 64,I 100,I 100,I 1000,I 2,I 64,I 4,I 1,F,U,J (aM c),I 80,F,U,U,Z,I (Pm.tOf c),Z,F]) 203)).alloc (.cells (#[Z,F,U,U,Z,Z,Z,V]) 64))=WB at*;have f0:=C.out.c.b;simp only[fg,eQ,Bo]at f0;clear HB;refine(HC.out _).mono ?_;rintro e w1⟨rfl,hb⟩;have C:=Lib.hid (C.out.below hb);have hu1:=ax.of_below (T:=T) hb;have f1:=C.out.c.b;simp only[fg,eQ,Bo]at f1;clear hb f0;go_wp2_with fail;refine cj C.out (wi 0 false C.out.c.t) (fm _ _ _ ⟨az,az⟩) (fun _ _ h=>⟨rfl,h⟩) ?_;rintro v w2 k2⟨CV,rfl,-⟩hu2 C;have f2:=C.out.c.b;simp only[fg,eQ,Bo]at f2;clear f1;go_wp2_with fail;refine cj C.out (g9 3 0 0 (.inl ⟨az,rfl,rfl⟩) C.out.c.t) (show cx m [dI 3 0 0]=m from rfl) (fun _ _ h=>⟨rfl,h⟩) ?_;rintro v w3 k3⟨CV,rfl,hV⟩hu3 C;have f3:=C.out.c.b;simp only[fg,eQ,Bo]at f3;clear f2;obtain⟨v2,v3,v4,v5,v6,v7,v8,v9,v10,v11,a5,m5,c5,a6,m6,c6,rfl,-,-,hsb,-⟩:=fq hV;rw[hb3.out]at hsb;have hsb':Value.slice a5 m5 c5= .slice none 0 0:=hsb;rw[Value.slice.injEq]at hsb';obtain⟨rfl,rfl,rfl⟩:=hsb';clear hV hsb;go_wp2_with fail;refine(nG c (Pm.tOf c) _).mono ?_;rintro e w4⟨rfl,hb⟩;have C:=Lib.hid (C.out.below hb);have hu4:=ax.of_below (T:=T) hb;have f4:=C.out.c.b;simp only[fg,eQ,Bo]at f4;clear hb f3;go_wp2_with fail;refine cj C.out (HQ.out _ _ _ C.out.c.r' C.out.t) rfl (fun _ _ h=>⟨rfl,h⟩) ?_;rintro v w5 k5 rfl hu5 C;have f5:=C.out.c.b;simp only[fg,eQ,Bo]at f5;clear f4;go_wp2_with fail;obtain⟨C,s5⟩:=yU;generalize(w5.alloc (.cells #[Z,F,U,U,Z,Z,Z,V] 64))=W7 at*;have f7:=C.out.c.b;simp only[fg,eQ,Bo]at f7;clear f5;refine cj C.out.last (Az 0 false C.out.last.c.t) rfl (fun _ _ h=>⟨rfl,h⟩) ?_;rintro v w10 k10⟨CV,rfl,-⟩hu10 C;have f10:=C.out.c.b;simp only[fg,eQ,Bo]at f10;clear f7;go_wp2;refine bodyPost_ret (v:=.agg #[Z,F,U,U,Z,Z,Z,V]) (aN (t:=64) Tryz.results101 _ _ _ rfl ?_ ?_ fi ic) rfl ?_;·go_simp
 ·go_simp
 exact(C.out.out (g:=w.heap.size+1) aa).fin _ rfl
theorem MA(most S c:Nat)(h0:1≤S)(h1:S≤8)(n0:0≤m.inn)(n1:m.inn≤1000000)(hm:m.inn≥(most:Int))(hbn:m.bn=none)(ps:List (List Nat))(hps:ps.length=S)(hsh:m.sh=ps.map fun l=>((l.length:Int),l.map aJ))(hcl:Pm.Clear c (ps.getD (prt S c) []))(hpl:ps.flatten.length≤19)(hR:∀q,R q→q<w.heap.size)(h:ft R w T ((ej m (QF m (prt S c) S++l)).take k)):Calls Tryz.prog 101 #[.agg #[most,I 4,S,I 64,I 64,J 1,I 1,I 1,I 1,I 64,I 100,I 100,I 1000,I 2,I 64,I 4,I 1,F,U,J (aM c),I 80,F,U,U,Z,I (Pm.tOf c),Z,F],.iface 280 (H T 0)] w (Cd R T m (QF m (prt S c) S) l k (fun v _=>v= .agg #[I 5,F,U,U,Z,Z,Z,V]) w):=by
 have hlt:=h.lt;have C:=Lib.hid (Cy.start h hR);have hpn:=sU S c h0 h1;have hpn':prt S c<ps.length:=aa;obtain⟨pl,hpe⟩:∃pl,ps[prt S c]? =some pl:=⟨_,List.getElem?_eq_getElem hpn'⟩;have hgl:ps.getD (prt S c) []=pl:=by rw[List.getD_eq_getElem?_getD,hpe];rfl
 have hpm:pl.length≤19:=Nat.le_trans (iG (List.mem_of_getElem? hpe)) hpl;have HQ:=Lib.hid (fun W k' l' hR' h=>In (T:=T) (R:=R) (m:=m) (w:=W) (k:=k') (l:=l') most S c h0 h1 n0 n1 hm pl (by rw[hsh,List.getElem?_map,hpe];rfl) aa (hgl▸hcl) hR' h);have HS:=Lib.hid (fun W k' l' hR' h=>Lr (T:=T) (R:=R) (m:=m) (w:=W) (k:=k') (l:=l') most S c h0 h1 n0 n1 hm ps hps hsh hcl hpl hR' h);have HC:=Lib.hid (fun W=>m8 c (Pm.tOf c) aa BV W);have hb3:=Lib.hid (show(fW m (dI 3 0 0)).bn=none from hbn);have hq:=Lib.hid (Im (m:=m) (prt S c));clear h hm hsh hcl hpl hpe hgl hpm hbn hps;generalize prt S c=n at*;go_enter Tryz.func101,Tryz.ntmps101;go_wp2_with fail;obtain⟨HB,C,u0,s0⟩:=yT;generalize((w.alloc (.cells (#[most,I 4,S,I 64,I 64,J 1,I 1,I 1,I 1,I 64,I 100,I 100,I 1000,I 2,I 64,I 4,I 1,F,U,J (aM c),I 80,F,U,U,Z,I (Pm.tOf c),Z,F]) 203)).alloc (.cells (#[Z,F,U,U,Z,Z,Z,V]) 64))=WB at*;have f0:=C.out.c.b;simp only[fg,eQ,Bo]at f0;clear HB;refine(HC.out _).mono ?_;rintro e w1⟨rfl,hb⟩;have C:=Lib.hid (C.out.below hb);have hu1:=ax.of_below (T:=T) hb;have f1:=C.out.c.b;simp only[fg,eQ,Bo]at f1;clear hb f0;go_wp2_with fail;refine cj C.out (wi 0 false C.out.c.t) (fm _ _ _ ⟨az,az⟩) (fun _ _ h=>⟨rfl,h⟩) ?_;rintro v w2 k2⟨CV,rfl,-⟩hu2 C;have f2:=C.out.c.b;simp only[fg,eQ,Bo]at f2;clear f1;go_wp2_with fail;refine cj C.out (g9 3 0 0 (.inl ⟨az,rfl,rfl⟩) C.out.c.t) (show cx m [dI 3 0 0]=m from rfl) (fun _ _ h=>⟨rfl,h⟩) ?_;rintro v w3 k3⟨CV,rfl,hV⟩hu3 C;have f3:=C.out.c.b;simp only[fg,eQ,Bo]at f3;clear f2;obtain⟨v2,v3,v4,v5,v6,v7,v8,v9,v10,v11,a5,m5,c5,a6,m6,c6,rfl,-,-,hsb,-⟩:=fq hV;rw[hb3.out]at hsb;have hsb':Value.slice a5 m5 c5= .slice none 0 0:=hsb;rw[Value.slice.injEq]at hsb';obtain⟨rfl,rfl,rfl⟩:=hsb';clear hV hsb;go_wp2_with fail;refine(nG c (Pm.tOf c) _).mono ?_;rintro e w4⟨rfl,hb⟩;have C:=Lib.hid (C.out.below hb);have hu4:=ax.of_below (T:=T) hb;have f4:=C.out.c.b;simp only[fg,eQ,Bo]at f4;clear hb f3;go_wp2_with fail;refine cj C.out (HQ.out _ _ _ C.out.c.r' C.out.t) hq.out (fun _ _ h=>⟨rfl,h⟩) ?_;rintro v w5 k5 rfl hu5 C;have f5:=C.out.c.b;simp only[fg,eQ,Bo]at f5;clear f4;go_wp2_with fail;obtain⟨C,s5⟩:=yU;generalize(w5.alloc (.cells #[Z,F,U,U,Z,Z,Z,V] 64))=W7 at*;have f7:=C.out.c.b;simp only[fg,eQ,Bo]at f7;clear f5;refine cj C.out (HS.out _ _ _ C.out.c.r' C.out.t) (IH S) (fun _ _ h=>⟨rfl,h⟩) ?_;rintro v w8 k8 rfl hu8 C;have f8:=C.out.c.b;simp only[fg,eQ,Bo]at f8;clear f7;go_wp2_with fail;have C:=Lib.hid (C.out.setb (C':=#[I 5,F,U,U,Z,Z,Z,V]) rfl aa (by simp[fg];omega));have f9:=C.out.c.b;simp only[fg,eQ,Bo]at f9;clear f8;refine cj C.out.last (Az 0 false C.out.last.c.t) (fm _ _ _ ⟨az,az⟩) (fun _ _ h=>⟨rfl,h⟩) ?_;rintro v w10 k10⟨CV,rfl,-⟩hu10 C;have f10:=C.out.c.b;simp only[fg,eQ,Bo]at f10;clear f9;go_wp2;refine bodyPost_ret (v:=.agg #[I 5,F,U,U,Z,Z,Z,V]) (aN (t:=64) Tryz.results101 _ _ _ rfl ?_ ?_ fi ic) rfl ?_;·go_simp
 ·go_simp
 exact(C.out.out (g:=w.heap.size+1) aa).fin _ rfl
end
end
section
attribute[local go_sem high]ah
attribute[local simp high]ah
attribute[local go_sem↓]dt db dM dv
attribute[local go_sem]dT dy eA dO
theorem Fu(most S c:Nat)(w:World):Calls Tryz.prog 65 #[.agg #[most,I 4,S,I 64,I 64,J 1,I 1,I 1,I 1,I 64,I 100,I 100,I 1000,I 2,I 64,I 4],.agg #[I 1,F,U,J (aM c),I 80,F,U,U,Z,I (Pm.tOf c),Z,F]] w fun e w'=>e= .returned (.func (.func 101) #[.agg #[most,I 4,S,I 64,I 64,J 1,I 1,I 1,I 1,I 64,I 100,I 100,I 1000,I 2,I 64,I 4,I 1,F,U,J (aM c),I 80,F,U,U,Z,I (Pm.tOf c),Z,F]] #[])∧Below w.heap.size w w':=by have hm:=Q1;go_enter Tryz.func65,Tryz.ntmps65;go_wp2;go_ret;exact⟨rfl,bY⟩
theorem zE(most S c:Nat)(w:World):Calls Tryz.prog 37 #[.agg #[most,I 4,S,I 64,I 64,J 1,I 1,I 1,I 1,I 64,I 100,I 100,I 1000,I 2,I 64,I 4],.agg #[I 1,F,U,J (aM c),I 80,F,U,U,Z,I (Pm.tOf c),Z,F]] w fun e w'=>e= .returned (.func (.func 101) #[.agg #[most,I 4,S,I 64,I 64,J 1,I 1,I 1,I 1,I 64,I 100,I 100,I 1000,I 2,I 64,I 4,I 1,F,U,J (aM c),I 80,F,U,U,Z,I (Pm.tOf c),Z,F]] #[])∧Below w.heap.size w w':=by have HR:=Lib.hid (fun W=>Fu most S c W);go_enter Tryz.func37,Tryz.ntmps37;go_wp2_with fail;refine(HR.out _).mono ?_;rintro e w1⟨rfl,hb⟩;have d1:Below w.heap.size w w1:=(bY:Below w.heap.size w ((w.alloc (.cells #[most,I 4,S,I 64,I 64,J 1,I 1,I 1,I 1,I 64,I 100,I 100,I 1000,I 2,I 64,I 4] 29)).alloc (.cells #[I 1,F,U,J (aM c),I 80,F,U,U,Z,I (Pm.tOf c),Z,F] 41))).trans (hb.mono aF);clear hb;go_wp2;go_ret;exact⟨rfl,d1⟩
def OK(os:List Oq)(Q:Array Value→Prop)(k:Nat):Tu:=match os[k]? with
 |some o=>.op o
 |none=>.done Q
theorem rb(most S c:Nat)(m:Mm)(os:List Oq)(RC:Array Value)(hRC:RC.size=8∧bB RC=true)(hcon:∀(R:Nat→Prop)(W:World)(T k:Nat),(∀q,R q→q<W.heap.size)→ft R W T ((ej m (os++[])).take k)→Calls Tryz.prog 101 #[.agg #[most,I 4,S,I 64,I 64,J 1,I 1,I 1,I 1,I 64,I 100,I 100,I 1000,I 2,I 64,I 4,I 1,F,U,J (aM c),I 80,F,U,U,Z,I (Pm.tOf c),Z,F],.iface 280 (H T 0)] W (Cd R T m os [] k (fun v _=>v= .agg RC) W))(t:Tk)(hl:t.nth<t.calls.length)(hc:aD t=(#[I 1,F,U,J (aM c),I 80,F,U,U,Z,I (Pm.tOf c),Z,F]:AV))(k:Nat)(hk:k≤os.length)(hg:t.got=(ej m os).take k):eJ #[most,I 4,S,I 64,I 64,J 1,I 1,I 1,I 1,I 64,I 100,I 100,I 1000,I 2,I 64,I 4] t (OK os (fun C=>C=RC) k):=by
 have e101:∀(args:Array Value)(w:World),(callFunc 101 args).run Tryz.prog w= .ok (.enter 101 args) w:=enters_of Tryz.func101 af rfl;refine GZ #[most,I 4,S,I 64,I 64,J 1,I 1,I 1,I 1,I 64,I 100,I 100,I 1000,I 2,I 64,I 4] rfl rfl t hl 101 #[most,I 4,S,I 64,I 64,J 1,I 1,I 1,I 1,I 64,I 100,I 100,I 1000,I 2,I 64,I 4,I 1,F,U,J (aM c),I 80,F,U,U,Z,I (Pm.tOf c),Z,F] _ (fun w=>by rw[hc];exact zE most S c w) ?_;intro R w vg hR hs;refine GX 101 e101 #[most,I 4,S,I 64,I 64,J 1,I 1,I 1,I 1,I 64,I 100,I 100,I 1000,I 2,I 64,I 4,I 1,F,U,J (aM c),I 80,F,U,U,Z,I (Pm.tOf c),Z,F] R hR t.got vg hs _ ?_;intro W TT hTT hb htp;rw[hg]at htp;refine(hcon R W TT k (fun q hq=>Nat.lt_of_lt_of_le (hR q hq) hb.size) (by rw[List.append_nil];exact htp)).mono fun e w' h=>?_;obtain⟨u1,u2⟩:=h;refine⟨u1,?_⟩;unfold OK;rcases u2 with⟨o,OO,k1,k2,k3⟩|⟨k',k1,v,k2,rfl,-⟩;·rw[k1];exact⟨OO,k2,k3⟩
 ·rw[List.getElem?_eq_none aa];exact⟨RC,k2,hRC.1,hRC.2,rfl⟩
end
theorem zj:prt 4 16=1:=af
theorem Df:prt 4 17=3:=af
theorem Ik:prt 4 18=1:=af
def Jr:Mm:=⟨0,0,none,none,List.replicate 4 (0,[]),List.replicate 6 (0,[])⟩
def OL:List Oq:=Qm Jr 1 16 []
def Qo:List Oq:=Qm (cx Jr OL) 3 17 []
def Rf:List Oq:=QF (cx (cx Jr OL) Qo) 1 4
def qp(i:Nat):List Oq:=if i=0 then OL else if i=1 then Qo else Rf
def FK(i:Nat):Mm:=if i=0 then Jr else if i=1 then cx Jr OL else cx (cx Jr OL) Qo
def Ry(i:Nat):Int:=if i=2 then 5 else 0
def OM(i:Nat):Array Value:=#[I (Ry i),F,U,U,Z,Z,Z,V]
def Qp(i:Nat):Array Value:=#[I 1,F,U,J (aM (16+i)),I 80,F,U,U,Z,I (Pm.tOf (16+i)),Z,F]
def Rh:Array Value:=#[I 2,I 4,I 4,I 64,I 64,J 1,I 1,I 1,I 1,I 64,I 100,I 100,I 1000,I 2,I 64,I 4]
def QH:List Nat:=[1,2,0,1,2,0]++(List.replicate 8 0++(List.replicate 8 1++List.replicate 21 2))
def mZ(k:Nat):Nat:=QH.getD k 0
def qF(k i:Nat):Nat:=(QH.take k).count i
def Jq(i p:Nat):Tk:=if p<(qp i).length then⟨[Qp i],0,(ej (FK i) (qp i)).take p,[]⟩else⟨[Qp i],1,[],[OM i]⟩
def Qq(m:Mm)(who:Nat)(o:Oq):Mm:=if o.k=1 then gh m o.lk ((who+1:Nat),(bf m o.lk).2)else if o.k=3 then gh m o.lk (if(bf m o.lk).1=(who+1:Nat)then 0 else(bf m o.lk).1,(bf m o.lk).2)else if o.k=6 then iY m o.a o.b o.c o.v else if o.k=7 then(dD m o).1 else m
def xH(k i:Nat):Option Oq:=if i<3 then(qp i)[qF k i]? else none
def Pa(k:Nat):Oq:=(qp (mZ k)).getD (qF k (mZ k)) (cW 0 0 false)
def qP:Nat→Mm
 |0=>Jr
 |k+1=>Qq (qP k) (mZ k) (Pa k)
def xw(l:List Nat)(m:Mm):Mm:={m with lk:=m.lk.set 0 ((bf m 0).1,l)}
def OH(o:Oq):Prop:=(o.k=1→o.lk.toNat≠0)∧(o.k=3→o.lk.toNat≠0)∧(o.k=2→o.lk=0)∧(o.k=4→o.lk=0)
theorem Bp(l:List Nat)(m:Mm){j:Int}(h:j.toNat≠0):bf (xw l m) j=bf m j:=by unfold bf xw;show((m.lk.set 0 _).getD j.toNat (0,[]))=_;rw[List.getD_eq_getElem?_getD,List.getD_eq_getElem?_getD,List.getElem?_set_ne aa]
theorem Ds(l:List Nat)(m:Mm)(h:0<m.lk.length):bf (xw l m) 0=((bf m 0).1,l):=by unfold xw;show((m.lk.set 0 _).getD 0 (0,[]))=_;rw[List.getD_eq_getElem?_getD,List.getElem?_set_self h];rfl
theorem Dt(l:List Nat)(m:Mm){j:Int}(h:j.toNat≠0)(v:Int×List Nat):gh (xw l m) j v=xw l (gh m j v):=by
 unfold xw gh;have:bf {m with lk:=m.lk.set j.toNat v} 0=bf m 0:=by show((m.lk.set j.toNat v).getD 0 (0,[]))=(m.lk.getD 0 (0,[]));rw[List.getD_eq_getElem?_getD,List.getD_eq_getElem?_getD,List.getElem?_set_ne h]
 rw[this];show Mm.mk m.inn m.out m.bn m.bk m.sh ((m.lk.set 0 _).set j.toNat v)=Mm.mk m.inn m.out m.bn m.bk m.sh ((m.lk.set j.toNat v).set 0 _);rw[List.set_comm _ _ aa]
theorem Lq(l:List Nat)(m:Mm)(h:0<m.lk.length){o:Oq}(ho:OH o):ia o (bf (xw l m) o.lk)=ia o (bf m o.lk):=by
 unfold ia;by_cases h1:o.k=1;·rw[Bp l m (ho.1 h1)]
 ·rw[if_neg h1,if_neg h1];by_cases h2:o.k=2;·rw[ho.2.2.1 h2,Ds l m h]
  ·rw[if_neg h2,if_neg h2]
theorem Ow(l:List Nat)(m:Mm)(h:0<m.lk.length){o:Oq}(ho:OH o)(who:Nat)(hl:l.Pairwise (·≤·))(m':Mm)(hd:kZ (xw l m) o who m'):∃l':List Nat,l'.Pairwise (·≤·)∧l'.length≤l.length+1∧m'=xw l' (Qq m who o):=by
 unfold kZ at hd;unfold Qq;have hS:∀(j:Int)(l':List Nat),j=0→gh (xw l m) j ((bf (xw l m) j).1,l')=xw l' m:=by rintro j l' rfl;rw[Ds l m h];show Mm.mk m.inn m.out m.bn m.bk m.sh ((m.lk.set 0 _).set 0 _)=_;rw[List.set_set];rfl
 by_cases h1:o.k=1;·rw[if_pos h1]at hd⊢;rw[Bp l m (ho.1 h1),Dt l m (ho.1 h1)]at hd;exact⟨l,hl,aa,hd⟩
 rw[if_neg h1]at hd⊢;by_cases h2:o.k=2;·rw[if_pos h2]at hd;obtain⟨l',p1,p2,rfl⟩:=hd;rw[if_neg aa,if_neg aa,if_neg aa];refine⟨l',p1,?_,hS _ _ (ho.2.2.1 h2)⟩;rw[ho.2.2.1 h2,Ds l m h]at p2;exact p2
 rw[if_neg h2]at hd;by_cases h3:o.k=3;·rw[if_pos h3]at hd⊢;rw[Bp l m (ho.2.1 h3),Dt l m (ho.2.1 h3)]at hd;exact⟨l,hl,aa,hd⟩
 rw[if_neg h3]at hd⊢;by_cases h4:o.k=4;·rw[if_pos h4]at hd;obtain⟨l',p1,p2,rfl⟩:=hd;rw[if_neg aa,if_neg aa];refine⟨l',p1,?_,hS _ _ (ho.2.2.2 h4)⟩;rw[ho.2.2.2 h4,Ds l m h]at p2;exact Nat.le_succ_of_le p2
 rw[if_neg h4]at hd;by_cases h6:o.k=6;·
  rw[if_pos h6]at hd⊢;refine⟨l,hl,aa,hd.trans ?_⟩;unfold iY xw;by_cases a4:o.a=4;·rw[if_pos a4,if_pos a4];rfl
  rw[if_neg a4,if_neg a4];by_cases a5:o.a=5;·rw[if_pos a5,if_pos a5];rfl
  rw[if_neg a5,if_neg a5];rfl
 rw[if_neg h6]at hd⊢;by_cases h7:o.k=7;·
  rw[if_pos h7]at hd⊢;refine⟨l,hl,aa,hd.trans ?_⟩;unfold dD xw;by_cases a2:o.a=2;·
   rw[if_pos a2,if_pos a2];by_cases b:m.out=o.x;·rw[if_pos b,if_pos b];rfl
   ·rw[if_neg b,if_neg b]
  ·rw[if_neg a2,if_neg a2];by_cases b:m.inn=o.x;·rw[if_pos b,if_pos b];rfl
   ·rw[if_neg b,if_neg b]
 rw[if_neg h7]at hd⊢;exact⟨l,hl,aa,hd⟩
structure PA(k:Nat)(x:Wo):Prop where
 kl:k≤43
 K:x.K=Rh
 m:∃l:List Nat,l.Pairwise (·≤·)∧l.length≤k∧x.m=xw l (qP k)
 t:x.ts=(List.range 3).map fun i=>Jq i (qF k i)
 lg:x.lg.length=k
instance (o:Oq):Decidable (OH o):=by unfold OH;infer_instance
instance (S:Nat)(o:Oq):Decidable (E9 S o):=by unfold E9 My;infer_instance
instance (m:Mm)(a b c:Int):Decidable (vZ m a b c):=by unfold vZ;infer_instance
def Jp(k:Nat):List Nat:=(List.range 3).filter fun i=>match xH k i with
 |some o=>ia o (bf (qP k) o.lk)
 |none=>false
theorem M8:((List.range 3).all fun i=>(qp i).all fun o=>decide (E9 4 o)&&decide (OH o)&&o.v.bk.isNone)=true:=af
theorem Mc:((List.range 43).all fun k=>decide ((Jp k)[wU (iS [1,2,0,1,2,0] k) (Jp k).length]? =some (mZ k))&&decide (mZ k<3)&&decide (qF k (mZ k)<(qp (mZ k)).length))=true:=af
theorem M6:Jp 43=[]:=af
theorem Mb:((List.range 44).all fun k=>(qP k).bn.isNone&&(qP k).bk.isNone&&decide ((qP k).sh.length=4)&&decide ((qP k).lk.length=6)&&((qP k).sh.all fun x=>decide (x.2.length≤900))&&((qP k).lk.all fun x=>x.2.isEmpty))=true:=af
theorem PC:((List.range 44).all fun k=>(List.range 3).all fun i=>match xH k i with
 |some o=> !decide (o.k=6)||decide (vZ (qP k) o.a o.b o.c)
 |none=>true)=true:=af
theorem M9:(List.range 43).map (fun k=>fW (qP k) (Pa k))=(List.range 43).map (fun k=>(ej (FK (mZ k)) (qp (mZ k))).getD (qF k (mZ k)) zV):=af
theorem M7:qP 43=⟨2,0,none,none,[(0,[]),(1,[aJ 16]),(0,[]),(1,[aJ 17])],List.replicate 6 (0,[])⟩:=af
theorem BQ(i:Nat)(hi:i<3)(t:Tk)(hl:t.nth<t.calls.length)(hc:aD t=Qp i)(k:Nat)(hk:k≤(qp i).length)(hg:t.got=(ej (FK i) (qp i)).take k):eJ Rh t (OK (qp i) (fun C=>C=OM i) k):=by
 match i,hi with
  |0,_=>refine rb 2 4 16 Jr OL (OM 0) ⟨rfl,rfl⟩ (fun R W T k hR h=>?_) t hl hc k hk hg;have:=BL (m:=Jr) (R:=R) (T:=T) (w:=W) (k:=k) (l:=[]) 2 4 16 aa aa az az az rfl [[],[],[],[]] rfl rfl [] (by rw[zj];rfl) (by rw[zj];exact Pm.Clear.nil _) az hR (by rw[zj];exact h);rw[zj]at this;exact this
  |1,_=>refine rb 2 4 17 (FK 1) Qo (OM 1) ⟨rfl,rfl⟩ (fun R W T k hR h=>?_) t hl hc k hk hg;have:=BL (m:=FK 1) (R:=R) (T:=T) (w:=W) (k:=k) (l:=[]) 2 4 17 aa aa az az az rfl [[],[16],[],[]] rfl af [] (by rw[Df];rfl) (by rw[Df];exact Pm.Clear.nil _) az hR (by rw[Df];exact h);rw[Df]at this;exact this
  |2,_=>refine rb 2 4 18 (FK 2) Rf (OM 2) ⟨rfl,rfl⟩ (fun R W T k hR h=>?_) t hl hc k hk hg;have:=MA (m:=FK 2) (R:=R) (T:=T) (w:=W) (k:=k) (l:=[]) 2 4 18 aa aa az az az rfl [[],[16],[],[17]] rfl af (by rw[Ik];intro x hx;simp only[List.getD_cons_succ,List.getD_cons_zero,List.mem_singleton]at hx;subst hx;decide) az hR (by rw[Ik];exact h);rw[Ik]at this;exact this
theorem gE{n:Nat}{p:Nat→Bool}(h:(List.range n).all p=true){k:Nat}(hk:k<n):p k=true:=List.all_eq_true.1 h k (List.mem_range.2 hk)
theorem Mj{k:Nat}(hk:k≤43):(qP k).lk.length=6:=by have:=gE Mb (Nat.lt_succ_of_le hk);simp only[Bool.and_eq_true,decide_eq_true_eq]at this;exact this.1.1.2
theorem BP{i:Nat}(hi:i<3){o:Oq}(ho:o∈qp i):E9 4 o∧OH o∧o.v.bk=none:=by have:=List.all_eq_true.1 (gE M8 hi) o ho;simp only[Bool.and_eq_true,decide_eq_true_eq,Option.isNone_iff_eq_none]at this;exact⟨this.1.1,this.1.2,this.2⟩
theorem lq{k i:Nat}{o:Oq}(h:xH k i=some o):i<3∧(qp i)[qF k i]? =some o∧o∈qp i∧qF k i<(qp i).length:=by
 unfold xH at h;by_cases hi:i<3;·rw[if_pos hi]at h;exact⟨hi,h,List.mem_of_getElem? h,(List.getElem?_eq_some_iff.1 h).1⟩
 ·rw[if_neg hi]at h;cases h
theorem PA.on{k:Nat}{x:Wo}(h:PA k x):ef x (xH k) x.ts.length=Jp k:=by
 obtain⟨hk,hK,⟨l,p1,p2,hm⟩,ht,-⟩:=h;rw[ht];show(List.range 3).filter _=(List.range 3).filter _;refine List.filter_congr fun i hi=>?_;unfold Hz;cases ho:xH k i with
  |none=>rfl
  |some o=>show ia o (bf x.m o.lk)=ia o (bf (qP k) o.lk);obtain⟨h1,-,h2,-⟩:=lq ho;rw[hm];exact Lq l _ (by rw[Mj hk];omega) (BP h1 h2).2.1
theorem PA.tk{k:Nat}{x:Wo}(h:PA k x){i:Nat}{t:Tk}(ht:x.ts[i]? =some t):i<3∧t=Jq i (qF k i):=by rw[h.t,List.getElem?_map]at ht;obtain⟨j,hj,rfl⟩:=Option.map_eq_some_iff.1 ht;obtain⟨q1,q2⟩:=List.getElem?_eq_some_iff.1 hj;rw[List.getElem_range]at q2;subst q2;exact⟨by simpa using q1,rfl⟩
theorem xG{k:Nat}(hk:k<43)(i:Nat):qF (k+1) i=qF k i+if i=mZ k then 1 else 0:=by have h43:QH.length=43:=rfl;unfold qF mZ;rw[List.take_succ_eq_append_getElem aa,List.count_append,List.getD_eq_getElem?_getD,List.getElem?_eq_getElem aa];show _+List.count i [_]=_;rw[List.count_singleton];simp only[Option.getD_some,beq_iff_eq];split<;>split<;>first|rfl|(exfalso;omega)
theorem PA.run{k:Nat}{x:Wo}(h:PA k x):pB 4 [1,2,0,1,2,0] PA (fun k x tu=>PA k x∧tu=xH k) k x (xH k):=by
 obtain⟨l,p1,p2,hm⟩:=h.m;have hk:=h.kl;have hlk:=Mj hk;have hmm:=gE Mb (Nat.lt_succ_of_le hk);simp only[Bool.and_eq_true,decide_eq_true_eq,Option.isNone_iff_eq_none]at hmm;obtain⟨⟨⟨⟨⟨q1,q2⟩,q3⟩,q4⟩,q5⟩,q6⟩:=hmm;have hst:∀{i:Nat}{o:Oq},xH k i=some o→o.k=6→vZ (qP k) o.a o.b o.c:=by
  intro i o ho h6;have:=gE (gE PC (Nat.lt_succ_of_le hk)) (lq ho).1;rw[ho]at this;simp only[Bool.or_eq_true,Bool.not_eq_true',decide_eq_true_eq,decide_eq_false_iff_not]at this;rcases this with q|q;·exact absurd h6 q
  ·exact q
 have hT:∀{i:Nat}{t:Tk},x.ts[i]? =some t→∀{o:Oq},xH k i=some o→t=⟨[Qp i],0,(ej (FK i) (qp i)).take (qF k i),[]⟩:=by intro i t ht o ho;obtain⟨-,rfl⟩:=h.tk ht;unfold Jq;rw[if_pos (lq ho).2.2.2]
 refine⟨⟨h,rfl⟩,?_,?_,?_,?_,?_⟩;·
  rw[hm];refine⟨fun l hl=>?_,fun l hl=>?_,q3,?_,fun y hy=>?_,fun y hy=>?_⟩;·rw[show(xw _ (qP k)).bn=(qP k).bn from rfl,q1]at hl;cases hl
  ·rw[show(xw _ (qP k)).bk=(qP k).bk from rfl,q2]at hl;cases hl
  ·show((qP k).lk.set 0 _).length=6;rw[List.length_set];exact q4
  ·simpa using List.all_eq_true.1 q5 y hy
  ·rcases List.mem_or_eq_of_mem_set hy with hy|rfl;·have:=List.all_eq_true.1 q6 y hy;rw[List.isEmpty_iff]at this;rw[this];exact⟨List.Pairwise.nil,ay⟩
   ·exact⟨p1,by show l.length≤80000;omega⟩
 ·rw[h.t];simp
 ·rw[h.lg];omega
 ·intro i t ht;obtain⟨hi,ht'⟩:=h.tk ht;refine⟨?_,?_⟩;·
   by_cases hp:qF k i<(qp i).length;·
    refine .inr ⟨(qp i)[qF k i],?_,?_⟩;·unfold xH;rw[if_pos hi,List.getElem?_eq_getElem hp]
    ·have hu:xH k i=some (qp i)[qF k i]:=by unfold xH;rw[if_pos hi,List.getElem?_eq_getElem hp]
     have e:=hT ht hu;refine⟨by rw[e];exact Nat.zero_lt_one,?_,(BP hi (List.getElem_mem hp)).1⟩;have:=BQ i hi t (by rw[e];exact Nat.zero_lt_one) ro (qF k i) (Nat.le_of_lt hp) (by rw[e]);unfold OK at this;rw[List.getElem?_eq_getElem hp]at this;rw[h.K];exact this
   ·refine .inl ⟨?_,?_⟩;·unfold xH;rw[if_pos hi,List.getElem?_eq_none aa]
    ·rw[ht'];unfold Jq;rw[if_neg hp];exact Nat.le_refl _
  ·have hlen:(qp i).length≤100:=by
    match i,hi with
     |0,_=>decide
     |1,_=>decide
     |2,_=>decide
   have hb:t.calls.length≤1∧t.got.length≤100∧t.rep.length≤1:=by
    rw[ht'];unfold Jq;by_cases hp:qF k i<(qp i).length;·rw[if_pos hp];refine⟨Nat.le_refl _,?_,ay⟩;show((ej _ _).take _).length≤_;rw[List.length_take,lY];omega
    ·rw[if_neg hp];simp
   refine⟨aa,aa,aa,fun o ho h6=>?_⟩;obtain⟨-,-,hmem,-⟩:=lq ho;rw[hm];exact⟨hst ho h6,fun l hl=>by rw[(BP hi hmem).2.2]at hl;cases hl⟩
 ·intro who t o ht ho hmay hpk;rw[h.on]at hpk;have hk43:k<43:=by
   rcases Nat.lt_or_ge k 43 with q|q;·exact q
   ·have:k=43:=aa;subst this;rw[M6]at hpk;cases hpk
  have hon:=gE Mc hk43;simp only[Bool.and_eq_true,decide_eq_true_eq]at hon;rw[hon.1.1]at hpk;cases hpk;obtain⟨hi,hop,hmem,hp⟩:=lq ho;have e:=hT ht ho;have hE:Pa k=o:=by unfold Pa;rw[List.getD_eq_getElem?_getD,hop];rfl
  have hv:fW x.m o=(ej (FK (mZ k)) (qp (mZ k))).getD (qF k (mZ k)) zV:=by have:=List.map_inj_left.1 M9 k (List.mem_range.2 hk43);rw[hE]at this;rw[←this,hm,←AP,←AP (qP k)];rfl
  have htk:(ej (FK (mZ k)) (qp (mZ k))).take (qF k (mZ k))++[fW x.m o]=(ej (FK (mZ k)) (qp (mZ k))).take (qF k (mZ k)+1):=by rw[hv,List.take_succ_eq_append_getElem (by rw[lY];exact hp),List.getD_eq_getElem?_getD,List.getElem?_eq_getElem (by rw[lY];exact hp)];rfl
  refine⟨OK (qp (mZ k)) (fun C=>C=OM (mZ k)) (qF k (mZ k)+1),?_,?_⟩;·rw[h.K];exact BQ _ hi _ (by rw[e];exact Nat.zero_lt_one) ro _ hp (by rw[e];exact htk)
  ·rintro x'⟨m',hd,hx'⟩;rw[hm]at hd;obtain⟨l',r1,r2,rfl⟩:=Ow l (qP k) aa (BP hi hmem).2.1 _ p1 m' hd;rw[←hE]at hx';have hmk:Qq (qP k) (mZ k) (Pa k)=qP (k+1):=rfl;rw[hE,e]at hx';rw[←hE,hmk]at hx';rw[hE]at hx';have hts:x.ts.set (mZ k) (Jq (mZ k) (qF k (mZ k)+1))=(List.range 3).map fun i=>Jq i (qF (k+1) i):=by
    rw[h.t];apply List.ext_getElem?;intro j;rw[List.getElem?_set,List.length_map,List.length_range,List.getElem?_map,List.getElem?_map];by_cases hj:mZ k=j;·subst hj;rw[if_pos rfl,if_pos hi,List.getElem?_eq_getElem lw,List.getElem_range];simp only[Option.map_some];rw[xG hk43,if_pos rfl]
    ·rw[if_neg hj];by_cases h3:j<3;·rw[List.getElem?_eq_getElem xV,List.getElem_range];simp only[Option.map_some];rw[xG hk43,if_neg (fun q=>hj q.symm)];rfl
     ·rw[List.getElem?_eq_none xV];rfl
   unfold OK at hx';by_cases hl:qF k (mZ k)+1<(qp (mZ k)).length;·rw[List.getElem?_eq_getElem hl]at hx';simp only at hx';subst hx';refine⟨hk43,h.K,⟨l',r1,aa,rfl⟩,?_,by show(x.lg++[_]).length=_;rw[List.length_append,h.lg];rfl⟩;rw[←hts];unfold Jq;rw[if_pos hl,←htk]
   ·rw[List.getElem?_eq_none aa]at hx';obtain⟨CR,rfl,rfl⟩:=hx';refine⟨hk43,h.K,⟨l',r1,aa,rfl⟩,?_,by show(x.lg++[_]).length=_;rw[List.length_append,h.lg];rfl⟩;rw[←hts];unfold Jq;rw[if_neg hl];rfl
section
attribute[local go_sem high]ah
attribute[local simp high]ah
def Md:Cv:=⟨2,4,4,64,64,1,1,1,1,64,100,100,1000,2,64,4⟩
theorem Qb:OY Md [] [] []:=by refine⟨?_,⟨(fun _ h=>ly),.nil⟩,⟨(fun _ h=>ly),.nil⟩,⟨(fun _ h=>ly),.nil⟩,az,az,az,az,(fun _ h=>ly),(fun _ h=>ly)⟩;unfold OV QA QB QC Md;simp
theorem KK(w:World):Calls Tryz.prog 19 #[.agg (ld Md),.agg #[V,V,V]] w fun e w'=>e= .returned Y∧Below w.heap.size w w':=vf Md [] [] [] Qb az (fun _ h=>ly) az az az _ _ _ w (Sl.nil _ _) (Sl.nil _ _) (Sl.nil _ _)
def OW(R:Nat→Prop)(W:World)(C:Array Value)(s:Int×List (Array Value)):Prop:=Fa R W C s∧(s.2=[]→C=(#[I s.1,V]:AV))
theorem Ep:jC OW:=fun h k m=>⟨iH h.1 k m,h.2⟩
theorem E0(S:Nat)(h0:1≤S)(h1:S≤8)(w:World):Calls Tryz.prog 48 #[V,J 1,S] w fun e w'=>e= .returned (G w.heap.size S S)∧aV w' w.heap.size 129 2 (G w.heap.size S S) (List.replicate S #[Z,V])∧Below w.heap.size w w':=by
 have hmk:=pw (P:=Tryz.prog) 44 129 _ Z V 32 Tryz.underlying44 yy rfl S aa aa;go_enter Tryz.func48,Tryz.ntmps48;go_wp2_with(go_at_call 79;refine(mj S aa aa _).mono ?_;rintro e w1⟨rfl,rfl⟩);go_loopg[16]0(fun g s16 wr=>s16= .int .i64 0∧wr=w.alloc (.cells (madeCells #[Z,V] (S*2)) 129));case atStart=>exact⟨rfl,rfl⟩
 case round=>obtain⟨rfl,rfl⟩:=hrel;go_wp2;exact bodyPost_ret (results_tmp rfl _ _ _) rfl ⟨rfl,gU w 129 _ _ rfl S aa,(Below.refl _ _).alloc (Nat.le_refl _) _⟩
theorem Co{sh:List (Int×List (Array Value))}(h1:sh.length=4)(h2:∀x∈sh,x.1=(x.2.length:Int))(h3:(sh.flatMap (·.2)).Perm []):sh=List.replicate 4 (0,[]):=by have h4:sh.flatMap (·.2)=[]:=List.Perm.eq_nil h3;rw[List.flatMap_eq_nil_iff]at h4;exact List.eq_replicate_iff.2 ⟨h1,fun b hb=>Prod.ext (by rw[h2 b hb,h4 b hb];rfl) (h4 b hb)⟩
theorem P2(w:World):Calls Tryz.prog 20 #[.agg (ld Md),.agg #[V,V,V]] w fun e w'=>∃vS vL L,e= .returned (.agg (#[Z,Z,V,V,vS,vL]))∧Sl w' vS 2 (List.replicate 4 #[Z,V])∧Sl w' vL 2 L∧L.length=6∧(∀q,vS.ownBlock=some q→w.heap.size≤q)∧Below w.heap.size w w':=by
 refine(yI OW Ep Md none none [] [] rfl az az az 4 rfl az az (R:=fun _=>False) V V V w rfl rfl (Sl.nil _ _) fun W _=>(E0 4 az az W).mono ?_).mono ?_;·
  rintro e w'⟨rfl,ho,hb⟩;refine⟨⟨_,List.replicate 4 (0,[]),rfl,rfl,?_,.refl _,⟨_,⟨ho.sl,fun q hq=>(ho.base hq).1⟩,⟨rfl,fun i C x h1 h2=>?_⟩⟩⟩,hb⟩;·intro x hx;rw[List.eq_of_mem_replicate hx];rfl
  ·rw[List.getElem?_replicate]at h1 h2;split at h1;·rename_i hi;rw[if_pos hi]at h2;cases h1;cases h2;exact⟨⟨_,rfl,Sl.nil _ _,fun q hq=>by cases hq⟩,fun _=>rfl⟩
   ·cases h1
 ·rintro e w'⟨⟨C,sh,rfl,⟨sb,sk,vS,vL,rfl,hsb,hsk,⟨LS,hS,eS⟩,⟨LL,hL,eL⟩⟩,h1,h2,h3⟩,hb⟩;obtain rfl:=Co h1 h2 h3;rw[show sb= .slice none 0 0 from hsb,show sk= .slice none 0 0 from hsk];have e4:LS=List.replicate 4 #[.int .i64 0,.slice none 0 0]:=List.eq_replicate_iff.2 ⟨eS.1,fun b hb=>by
   obtain⟨i,hi,rfl⟩:=List.mem_iff_getElem.1 hb;have h4:i<4:=by have:=eS.1;rw[List.length_replicate]at this;omega
   exact(eS.2 i _ _ (List.getElem?_eq_getElem hi) (show(List.replicate 4 ((0:Int),([]:List (Array Value))))[i]? =some (0,[])by rw[List.getElem?_replicate,if_pos h4])).2 rfl⟩;subst e4;exact⟨vS,vL,LL,rfl,hS.1,hL.1,eL.1,hS.2,hb⟩
end
end Go.Proofs.YtnncjbkepakgpaaGreat
