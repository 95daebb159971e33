/- THOSE THAT ARE DROPPED. ALL PARTS IN ONE LIST. MEMORY: store. MEMORY: store, as a whole. -/
import Derived.Test.YtnncjbkepakgpaaGreatA15
import Derived.Lib.AppendZeros
import Derived.Deep.Upon
namespace Go.Proofs.YtnncjbkepakgpaaGreat
open Go.RowKit Qv
set_option linter.unusedVariables false
set_option linter.unusedSimpArgs false
set_option maxRecDepth 100000
set_option maxHeartbeats 8000000
section
attribute[local go_sem↓]aZ aW
attribute[local go_sem]dC
theorem O5{ops:Array Oper}{rest:List Oper}{o:Oper}{a:Act}{w:World}{Q:Exit→Act→World→Prop}(hgd:o.guard=none)(s x:Operand)(ho:o.op= .call {callee:=.builtin .append,args:=#[s,x],argTypes:=#[23,23]})(B:Nat)(v:Value)(L M:List (Array Value))(hs:a.eval s=v)(hown:aV w B 3 1 v L)(ad:Addr)(m k:Nat)(hx:a.eval x= .slice (some ad) m k)(hM:Sl w (E (some ad) m k) 1 M)(hlen:L.length+M.length≤200000)(hbase:B≤w.heap.size)(h:∀v' w',aV w' B 3 1 v' (L++M)→Below B w w'→(∀q,q<w.heap.size→v.ownBlock≠some q→w'.heap[q]? =w.heap[q]?)→wpList Tryz.prog ops Q rest (a.put o.dst v') w'):wpList Tryz.prog ops Q (o::rest) a w:=by
 obtain⟨i0,hi,hz0,hz1,hz2⟩:=info_parts AT;obtain⟨h1,h2,h3⟩:=hM.flat az;have hm:m=M.length:=DT;subst hm;refine wpList_append_own (P:=Tryz.prog) _ hgd s x 23 ho B 3 i0 Z 1 8 Tryz.underlying23 hi hz0 hz1 hz2 rfl az v L.length (flat L) hs hown.1 ad M.length k (flat M) hx h1 h2 h3 fZ aa hbase fun v' w' k1 k2 k3=>h v' w' ⟨?_,?_⟩ ?_ (fun q hq hne=>k2.block q hq (fun e=>hne e.symm));·rw[fv,List.length_append];exact k1
 ·intro C hC;rcases List.mem_append.1 hC with hC|hC;·exact hown.2 C hC
  ·exact⟨hM.sizes C hC,hM.ones C hC⟩
 ·exact(Below.refl B w).grown k2 hbase fun q hq=>(hown.base hq).1
def gg(W:World)(g:Nat)(t:TypeId)(L:List Value):Prop:=W.heap[g]? =some (.cells L.toArray t (0,0))
theorem gg.at'{W:World}{g:Nat}{t:TypeId}{L:List Value}(h:gg W g t L):gP W g L:=by unfold gg at h;exact⟨by unfold bc;rw[h];rfl,by unfold aH;rw[h]⟩
theorem gg.lt{W:World}{g:Nat}{t:TypeId}{L:List Value}(h:gg W g t L):g<W.heap.size:=(Array.getElem?_eq_some_iff.1 h).1
theorem gg.set{W:World}{g:Nat}{t:TypeId}{L:List Value}(h:gg W g t L)(i:Nat)(v:Value):gg (W.setCell ⟨g,i,none⟩ v) g t (L.set i v):=by unfold gg at*;unfold World.setCell;simp only[Array.getElem?_modify,if_true,h];simp
theorem gg.made(w:World)(v:Value)(n:Nat)(e:TypeId):gg (w.alloc (.cells (madeCells #[v] n) e)) w.heap.size e (List.replicate n v):=by
 unfold gg;rw[(MapKept.heap_alloc w _).1];have:madeCells #[v] n=(List.replicate n v).toArray:=by
  apply Array.ext;·simp[madeCells]
  ·intro i h1 h2;simp[madeCells,Nat.mod_one]
 rw[this]
theorem aV.notRow{W:World}{B:Nat}{e:TypeId}{n:Nat}{v:Value}{L:List (Array Value)}(h:aV W B e n v L){g:Nat}{t:TypeId}{R:List Value}(hr:gg W g t R)(ht:e≠t):v.ownBlock≠some g:=by
 intro hv;obtain⟨⟨h1,h2⟩,h3⟩:=h;rcases h2 with⟨rfl,_⟩|⟨q,cap,cur,rfl,h4,h5,h6⟩;·simp[Value.ownBlock]at hv
 ·simp only[Value.ownBlock,Option.some.injEq]at hv;subst hv;unfold gg at hr;rw[hr]at h5;simp only[Option.some.injEq,Obj.cells.injEq]at h5;exact ht h5.2.1.symm
theorem nY(A Gx:List Nat)(u g:Value)(w:World)(hu:Sl w u 1 (A.map fw))(hg:Sl w g 1 (Gx.map fw))(hG:∀a∈Gx,a<A.length)(hl:A.length≤1000)(hl2:Gx.length≤1000):Calls Tryz.prog 320 #[u,g] w fun e w'=>∃v',e= .returned v'∧aV w' w.heap.size 3 1 v' ((fI A Gx 0).map fw)∧Below w.heap.size w w':=by
 obtain⟨a,cap,rfl,q1,q2,q3⟩:=hu;obtain⟨b,cap2,rfl,p1,p2,p3⟩:=hg;have HA:Hid (Sl w (E a (A.map fw).length cap) 1 (A.map fw)):=Lib.hid ⟨a,cap,rfl,q1,q2,q3⟩;have HG0:Hid (Sl w (E b (Gx.map fw).length cap2) 1 (Gx.map fw)):=Lib.hid ⟨b,cap2,rfl,p1,p2,p3⟩;rw[List.length_map]at q1 p1⊢;rw[List.length_map];obtain⟨i0,hi,hz0,hz1,hz2⟩:=info_parts AT;obtain⟨wm,hrun,r1,r2⟩:=run_make_own (P:=Tryz.prog) w w.heap.size 23 3 i0 _ 1 Tryz.underlying23 hi hz0 hz1 .i64 .i64 A.length (by rw[hz2];omega) fZ (Nat.le_refl _);have hbm:=pP r2;have HO0:Hid (aV wm w.heap.size 3 1 (G w.heap.size 0 A.length) []):=Lib.hid ⟨by simpa[flat]using r1,ay⟩;have hmk:=run_make_row' (P:=Tryz.prog) 415 4 F 1 Tryz.underlying415 NQ rfl .i64 .i64 A.length aa aa wm;have hof:=Lib.hid (gg.made wm F A.length 4);have hre:List.replicate A.length (Value.bool false)=iw A.length []:=by unfold iw;apply List.ext_getElem?;intro j;simp only[List.getElem?_replicate,List.getElem?_map];by_cases hj:j<A.length<;>simp[hj]
 rw[hre]at hof;have HM:=Lib.hid (hbm.trans ((Below.refl w.heap.size wm).alloc hbm.size (.cells (madeCells #[F] A.length) 4)));have HO1:=Lib.hid (HO0.out.below ((Below.refl _ _).alloc (Nat.le_refl _) (.cells (madeCells #[F] A.length) 4)));have hn0:0≤(A.length:Int):=aa;have hwm:=hbm.size;have hsz:(wm.alloc (.cells (madeCells #[F] A.length) 4)).heap.size=wm.heap.size+1:=ay;have hlt0:w.heap.size<wm.heap.size:=(HO0.out.base rfl).2;clear r1 r2 hbm q3 p3 HO0 hre;go_enter Tryz.func320,Tryz.ntmps320;go_wp2;clear hmk hrun;generalize hW1:wm.alloc (.cells (madeCells #[F] A.length) 4)=W1 at*;clear hW1;go_loopg[19]Gx.length(fun gk s19 wr=>∃k:Nat,s19= .int .i64 (k:Int)∧k+gk=Gx.length∧Hid (ax wm.heap.size W1 wr∧gg wr wm.heap.size 4 (iw A.length (Gx.take k))));case atStart=>exact⟨0,rfl,aa,Lib.hid ⟨ax.refl _ _,hof.out⟩⟩
 case round=>
  obtain⟨k,rfl,hg,HH⟩:=hrel;have HG:=Lib.hid hg;obtain⟨hU,hR⟩:=HH.out;have hws:=hU.size;by_cases hk:k<Gx.length;·
   obtain⟨gb,ob,rfl,hgb,hcb⟩:=Ba HG0.out hk;have hgk:Gx[k]<A.length:=hG _ (List.getElem_mem hk);have hcb':wr.cell? ⟨gb,ob+k,none⟩=some (.int .i64 (Gx[k]:Nat)):=by rw[hU.cell (p:=⟨gb,ob+k,none⟩) (by show gb<_;omega) (by show gb≠_;omega),HM.out.cell (p:=⟨gb,ob+k,none⟩) hgb];exact hcb
   have hkz:(k:Int)<(Gx.length:Int):=aa;have n1:0≤(k:Int):=aa;have haz:((Gx[k]:Nat):Int)<(A.length:Int):=aa;have n2:0≤((Gx[k]:Nat):Int):=aa;have hcell:=hR.at'.cell (i:=Gx[k]) (v:=.bool (decide (Gx[k]∈Gx.take k))) (by unfold iw;simp[hgk]);have hfr:=hR.at'.frozen Gx[k];have hst:gg (wr.setCell ⟨wm.heap.size,Gx[k],none⟩ Y) wm.heap.size 4 (iw A.length (Gx.take (k+1))):=by rw[List.take_succ_eq_append_getElem hk,←DU hgk];exact hR.set Gx[k] Y
   have HST:=Lib.hid (show ax wm.heap.size W1 (wr.setCell ⟨wm.heap.size,Gx[k],none⟩ Y)∧_ from⟨hU.set _ _,hst⟩);clear hst hg hU hR;generalize Gx[k]=ak at*;go_wp2;go_roundg(Gx.length-(k+1));case measure=>have:=HG.out;omega
   case rel=>exact⟨k+1,ay,lu,HST⟩
  ·obtain rfl:k=Gx.length:=aa;rw[List.take_length]at hR;have hkz:¬((Gx.length:Int)<(Gx.length:Int)):=aa;have HUr:=Lib.hid hU;have HRr:=Lib.hid hR;have HBr:=Lib.hid (HM.out.trans (hU.below hwm aa));have HOr:Hid (aV wr w.heap.size 3 1 (G w.heap.size 0 A.length) []):=Lib.hid (HO1.out.same fun q hq hq2=>hU.block q hq2 (fun e=>by simp only[Value.ownBlock,Option.some.injEq]at hq;omega));clear hU hR hg;go_wp2;go_loopg[5,29]A.length(fun gk s5 s29 wx=>∃k:Nat,s29= .int .i64 (k:Int)∧k+gk=A.length∧Hid (Below w.heap.size w wx∧gg wx wm.heap.size 4 (iw A.length Gx)∧aV wx w.heap.size 3 1 s5 ((fI (A.take k) Gx 0).map fw)));case atStart=>exact⟨0,rfl,aa,Lib.hid ⟨HBr.out,HRr.out,HOr.out⟩⟩
   case round=>
    obtain⟨k,rfl,hg,HH⟩:=hrel;have HG:=Lib.hid hg;obtain⟨hB,hR,hO⟩:=HH.out;have hws:=hB.size;have hlt:=hR.lt;by_cases hk:k<A.length;·
     obtain⟨ga,oa,rfl,hga,hca⟩:=Ba HA.out hk;have hca':wr.cell? ⟨ga,oa+k,none⟩=some (.int .i64 (A[k]:Nat)):=by rw[hB.cell (p:=⟨ga,oa+k,none⟩) hga];exact hca
     have hkz:(k:Int)<(A.length:Int):=aa;have n1:0≤(k:Int):=aa;have hcell:=hR.at'.cell (i:=k) (v:=.bool (decide (k∈Gx))) (by unfold iw;simp[hk]);have HB:=Lib.hid hB;have HR:=Lib.hid hR;have HO:=Lib.hid hO;have hsn:=uX (A.take k) Gx 0 A[k];rw[List.length_take,Nat.min_eq_left (Nat.le_of_lt hk),Nat.zero_add,←List.take_succ_eq_append_getElem hk]at hsn;have hkl:=jQ (A.take k) Gx 0;rw[List.length_take,Nat.min_eq_left (Nat.le_of_lt hk)]at hkl;clear hB hR hO hg;by_cases hin:k∈Gx;·
      rw[if_pos hin,List.append_nil]at hsn;go_wp2;go_roundg(A.length-(k+1));case measure=>have:=HG.out;omega
      case rel=>exact⟨k+1,ay,lu,Lib.hid ⟨HB.out,HR.out,by rw[hsn];exact HO.out⟩⟩
     ·rw[if_neg hin]at hsn;generalize A[k]=ak at*;have hwx:Hid (aV (wr.alloc (.cells (fw ak) 3)) w.heap.size 3 1 u5 ((fI (A.take k) Gx 0).map fw)):=Lib.hid (HO.out.below ((Below.refl _ _).alloc (Nat.le_refl _) _));go_wp2_with(at_builtin;refine O5 rfl (.tmp 39) (.tmp 41) rfl w.heap.size _ ((fI (A.take k) Gx 0).map fw) [fw ak] rfl hwx.out _ _ _ rfl (cY _ (fw ak) 3 1 _ rfl rfl rfl) (by simp only[List.length_map,List.length_singleton];omega) uF ?_;intro v' w3 hown hbel hfar);go_roundg(A.length-(k+1));case measure=>have:=HG.out;omega
      case rel=>have hra:gg (wr.alloc (.cells (fw ak) 3)) wm.heap.size 4 (iw A.length Gx):=(Below.heap_alloc wr _ _ hlt).trans HR.out;exact⟨k+1,ay,lu,Lib.hid ⟨(HB.out.alloc hws _).trans hbel,(hfar _ aF (hwx.out.notRow hra az)).trans hra,by rw[hsn];simpa using hown⟩⟩
    ·obtain rfl:k=A.length:=aa;have hkz:¬((A.length:Int)<(A.length:Int)):=aa;rw[List.take_length]at hO;go_wp2;refine bodyPost_ret (results_tmp rfl _ _ _) rfl ?_;exact⟨_,rfl,hO,hB⟩
end
section
attribute[local go_sem↓]aZ aW
attribute[local go_sem]dC bq
theorem G0(w:World)(C:Array Value)(t:TypeId):(w.drew.alloc (.cells C t)).heap[w.heap.size]? =some (.cells C t (0,0)):=by show(w.heap.push _)[w.heap.size]? =_;simp
def mW{α:Type}(Fx:α→Array Value)(W:World)(b:Nat)(vs:List Value)(Ls:List (List α)):Prop:=gg W b 55 vs∧vs.length=Ls.length∧∀(i:Nat)(v:Value)(l:List α),vs[i]? =some v→Ls[i]? =some l→Sl W v 10 (l.map Fx)
theorem mW.low{α:Type}{Fx:α→Array Value}{W W':World}{b:Nat}{vs:List Value}{Ls:List (List α)}(h:mW Fx W b vs Ls)(k:Below W.heap.size W W'):mW Fx W' b vs Ls:=⟨by have:=h.1;unfold gg at*;rw[k.block b h.1.lt];exact this,h.2.1,fun i v l h1 h2=>(h.2.2 i v l h1 h2).below k⟩
theorem ln{P:Program}(t e:TypeId)(i:TypeInfo)(ht:P.underlying t=some (.slice e))(hi:P.info? e=some i){W w:World}{B n:Nat}{v:Value}{L:List (Array Value)}(h:aV W B e n v L)(ty:TypeId)(c:Nat):(Builtin.append_ #[t,t] ty #[v,E none 0 c]).run P w= .ok v w:=by
 have hs:Src P i.size t (E none 0 c) 0 [] w:=⟨.inl ⟨e,ht⟩,fun _=>rfl,rfl,rfl,ay,ay⟩;rcases h.1.2 with⟨rfl,h0⟩|⟨g,cap,cur,rfl,_,_,hle,_⟩;·exact run_append_nothing w t t ty e i ht hi none 0 0 (Nat.le_refl _) _ hs
 ·exact run_append_nothing w t t ty e i ht hi _ _ _ hle _ hs
theorem GY(n:Nat)(hn:n≤1000)(w:World):Calls Tryz.prog 186 #[V,n] w fun e w'=>∃v',e= .returned v'∧aV w' w.heap.size 75 10 v' []∧Below w.heap.size w w':=by
 have h1:¬((n:Int)<0):=aa;have h2:IntKind.i64.wrap (n:Int)=(n:Int):=eD;go_enter Tryz.func186,Tryz.ntmps186;by_cases h0:n=0;·subst h0;go_wp2;refine bodyPost_ret (results_tmp rfl _ _ _) rfl ⟨_,rfl,aV.nil _ _ _ _,Below.refl _ _⟩
 ·have h3:((n:Int)>0):=aa;obtain⟨i0,hi,hz0,hz1,hz2⟩:=info_parts jf;have hc:=grownCap_le_maxLen w n 0 75 fZ;have hg:=grownCap_ge w n 0 75;have HR:=Lib.hid (Lib.run_append_nil_zeros (P:=Tryz.prog) w 55 3 55 75 i0 _ .i64 .i64 Tryz.underlying55 Tryz.underlying3 hi hz0 n aa (by rw[hz1];decide) aa (by rw[hz2];omega));generalize grownCap w n 0 75=cc at*;have n1:0≤(cc:Int):=aa;have hcH:=Lib.hid hc;have hgH:=Lib.hid hg;have hz3:(Value.agg #[F,U,U,Z,F,Z,Z,Z,Z,Z]).cells=(#[F,U,U,Z,F,Z,Z,Z,Z,Z]:AV):=rfl;clear hc hg;go_wp2_with(at_builtin;refine Lib.wpList_append_run _ rfl (.tmp 20) (.tmp 21) 55 3 rfl V n rfl rfl _ _ HR.out ?_);refine bodyPost_ret (results_tmp rfl _ _ _) rfl ⟨_,rfl,?_,JA⟩;refine⟨⟨jF,.inr ⟨_,_,_,rfl,Nat.le_refl _,G0 _ _ _,Nat.zero_le _,hcH.out,?_,jF⟩⟩,ay⟩;simp[Builtin.zeroCells];have:=hgH.out;omega
theorem wv{α:Type}(Fx:α→Array Value)(b:Nat)(vs:List Value)(Ls:List (List α))(w:World)(h:mW Fx w b vs Ls)(hL:Ls.length≤8)(hl:Ls.flatten.length≤1000):Calls Tryz.prog 134 #[G b Ls.length Ls.length] w fun e w'=>∃v',e= .returned v'∧aV w' w.heap.size 75 10 v' (Ls.flatten.map Fx)∧Below w.heap.size w w':=by
 have HA:=Lib.hid h;have hvl:vs.length=Ls.length:=h.2.1;clear h;obtain⟨fl,efl⟩:∃fl:Nat→Nat,∀k,fl k=(Ls.take k).flatten.length:=⟨_,fun _=>rfl⟩;have hfl:∀k:Nat,k≤Ls.length→fl k≤1000:=fun k hk=>by
  rw[efl];have:Ls.flatten.length=(Ls.take k).flatten.length+(Ls.drop k).flatten.length:=by rw[←List.length_append,←List.flatten_append,List.take_append_drop]
  omega
 have hstep:∀(k:Nat)(hk:k<Ls.length),(Ls.take (k+1)).flatten=(Ls.take k).flatten++Ls[k]:=fun k hk=>by rw[List.take_succ_eq_append_getElem hk,List.flatten_append];simp
 obtain⟨FP,EP⟩:∃FP:Nat→List (Array Value),Hid (∀k,FP k=((Ls.take k).flatten).map Fx):=⟨_,Lib.hid fun _=>rfl⟩;rw[show Ls.flatten.map Fx=FP Ls.length from by rw[EP.out,List.take_length]];have EF:=Lib.hid efl;clear efl;obtain⟨i75,hi75,_,_,_⟩:=info_parts jf;go_enter Tryz.func134,Tryz.ntmps134;go_wp2;go_loopg[3,11]Ls.length(fun g s3 s11 wr=>∃k:Nat,s11= .int .i64 (k:Int)∧k+g=Ls.length∧s3= .int .i64 ((fl k:Nat):Int)∧w=wr);case atStart=>exact⟨0,rfl,aa,by rw[EF.out];rfl,rfl⟩
 case round=>
  obtain⟨k,rfl,hg,rfl,rfl⟩:=hrel;have HG:=Lib.hid hg;by_cases hk:k<Ls.length;·
   have hkz:(k:Int)<(Ls.length:Int):=aa;have n1:0≤(k:Int):=aa;have hkv:k<vs.length:=by rw[hvl];exact hk
   have hv:vs[k]? =some vs[k]:=List.getElem?_eq_getElem hkv;have hS:=HA.out.2.2 k _ Ls[k] hv nS;have hcell:=HA.out.1.at'.cell (i:=k) hv;have hf:=hfl (k+1) aa;have hst:=hstep k hk;have hfk:fl (k+1)=fl k+Ls[k].length:=by rw[EF.out,EF.out,hst,List.length_append]
   have hw1:IntKind.i64.wrap ((fl k:Int)+((Ls[k].length:Nat):Int))=((fl (k+1):Nat):Int):=by rw[IntKind.wrap_i64,hfk];omega
   have hw2:¬((fl (k+1):Int)<0):=aa;clear hst hf hg hfk;generalize vs[k]=vk at*;obtain⟨ak,ck,rfl,qk⟩:=hS;rw[List.length_map]at*;go_wp2;go_roundg(Ls.length-(k+1));case measure=>have:=HG.out;omega
   case rel=>exact⟨k+1,ay,lu,rfl,rfl⟩
  ·obtain rfl:k=Ls.length:=aa;have hkz:¬((Ls.length:Int)<(Ls.length:Int)):=aa;go_wp2_with(go_at_call 186;refine(GY (fl Ls.length) (hfl _ (Nat.le_refl _)) _).mono ?_;rintro e w1⟨v1,rfl,ho,hb⟩;have HO:=Lib.hid ho;have hk1:=aw.mk hb;clear hb ho);go_loopg[6,27]Ls.length(fun g s6 s27 wx=>∃k:Nat,s27= .int .i64 (k:Int)∧k+g=Ls.length∧aw w wx∧Hid (aV wx w.heap.size 75 10 s6 (FP k)));case atStart=>exact⟨0,rfl,aa,hk1,Lib.hid (by rw[EP.out];exact HO.out)⟩
   case round=>
    obtain⟨k,rfl,hg,hK,HO2⟩:=hrel;have HG2:=Lib.hid hg;obtain⟨x1,x2,x3,x4,x5,x6,x7,x8,x9,x10⟩:=dJ hK.out;(try simp at x9);have y9:=fun g h=>Nat.le_of_lt (x10 g h);(try have z0:w.heap.size<wr.heap.size:=aa);(try have u0:w.heap.size<wr.heap.size+1:=aa);(try have v0:¬(w.heap.size=wr.heap.size):=aa);(try have z1:w.heap.size+1<wr.heap.size:=aa);(try have u1:w.heap.size+1<wr.heap.size+1:=aa);(try have v1:¬(w.heap.size+1=wr.heap.size):=aa);(try have z2:w.heap.size+1+1<wr.heap.size:=aa);(try have u2:w.heap.size+1+1<wr.heap.size+1:=aa);(try have v2:¬(w.heap.size+1+1=wr.heap.size):=aa);by_cases hk:k<Ls.length;·
     have hkz:(k:Int)<(Ls.length:Int):=aa;have n1:0≤(k:Int):=aa;have hkv:k<vs.length:=by rw[hvl];exact hk
     have hv:vs[k]? =some vs[k]:=List.getElem?_eq_getElem hkv;have hS:=HA.out.2.2 k _ Ls[k] hv nS;have hbw:=HA.out.1.lt;have hcell:=HA.out.1.at'.cell (i:=k) hv;have hf:=hfl (k+1) aa;have hst:=hstep k hk;rw[EF.out,hst,List.length_append]at hf;have hst2:FP (k+1)=FP k++Ls[k].map Fx:=by rw[EP.out,EP.out,hst,List.map_append]
     have hFl:(FP k).length=fl k:=by rw[EP.out,EF.out,List.length_map]
     have hfk1:=hfl k aa;have hws:=hK.out.size;have HSk:=Lib.hid (hS.below hK.out);have H2:=Lib.hid (And.intro hst2 (And.intro hFl (And.intro hfk1 hf)));clear hst hg hst2 hFl hfk1 hf;generalize vs[k]=vk at*;obtain⟨ak,ck,rfl,q1,q2,q3⟩:=hS;rw[List.length_map]at*;rcases q3 with⟨rfl,q3⟩|⟨gk,ok,rfl,hgk,q3⟩;·
      have hl0:Ls[k].length=0:=by simpa using q3
      have han:=ln (w:=wr) 55 75 i75 Tryz.underlying55 hi75 HO2.out;rw[hl0]at hcell;go_wp2_with(at_builtin;refine Lib.wpList_append_run _ rfl (.tmp 31) (.tmp 32) 55 55 rfl _ (E none 0 ck) rfl rfl _ _ (han _ ck) ?_);go_roundg(Ls.length-(k+1));case measure=>have:=HG2.out;omega
      case rel=>exact⟨k+1,ay,by have:=HG2.out;omega,hK,Lib.hid (by rw[H2.out.1,q3];simpa using HO2.out)⟩
     ·go_wp2_with(at_builtin;refine pD rfl (.tmp 31) (.tmp 32) rfl w.heap.size _ _ (Ls[k].map Fx) rfl HO2.out _ _ _ rfl HSk.out (by have:=H2.out.2;simp only[List.length_map];omega) hws ?_;intro v' w3 hown hbel hnil);go_roundg(Ls.length-(k+1));case measure=>have:=HG2.out;omega
      case rel=>exact⟨k+1,ay,by have:=HG2.out;omega,⟨by repeat'(first|(with_reducible exact Below.refl _ _)|(with_reducible apply Below.drew)|(with_reducible refine Below.alloc ?_ ?_ _)|(with_reducible refine Below.setCell ?_ ?_ _)|(with_reducible refine ai ?_ ?_ _)|(with_reducible refine ce ?_ ?_ _ _)|(refine aw.since et ?_ ?_)|(refine aj et ?_ ?_)|(with_reducible exact Nat.le_refl _)|omega|(simp;done)|(simp;omega))⟩,Lib.hid (by rw[H2.out.1];exact hown)⟩
    ·obtain rfl:k=Ls.length:=aa;have hkz:¬((Ls.length:Int)<(Ls.length:Int)):=aa;go_wp2;refine bodyPost_ret (results_tmp rfl _ _ _) rfl ?_;exact⟨_,rfl,HO2.out,hK.out⟩
def jA(W:World)(b:Nat)(vs:List Value)(Ls:List (List Nat)):Prop:=mW aJ W b vs Ls
theorem jA.low{W W':World}{b:Nat}{vs:List Value}{Ls:List (List Nat)}(h:jA W b vs Ls)(k:Below W.heap.size W W'):jA W' b vs Ls:=mW.low h k
theorem AI(b:Nat)(vs:List Value)(Ls:List (List Nat))(w:World)(h:jA w b vs Ls)(hL:Ls.length≤8)(hl:Ls.flatten.length≤1000):Calls Tryz.prog 134 #[G b Ls.length Ls.length] w fun e w'=>∃v',e= .returned v'∧aV w' w.heap.size 75 10 v' (Ls.flatten.map aJ)∧Below w.heap.size w w':=wv aJ b vs Ls w h hL hl
end
section
theorem yX{p:Prop}(h:PQ p:=by have hkl:=(List.getElem?_eq_some_iff.1 hk).1;have n3:(k:Int)<(CS.length:Int):=aa;have n4:0≤(k:Int):=aa;have g1:g<w.heap.size+1:=aa;have g2:g<w.heap.size+1+1:=aa;have g3:g<w.heap.size+1+1+1:=aa;have g4:g<w.heap.size+1+1+1+1:=aa;have g5:g<w.heap.size+1+1+1+1+1:=aa;have HP:=Lib.hid (fun(b:Int)(a':Option Addr)(m' c':Nat)(W:World)(k':Below w.heap.size w W)=>PS (inn:=inn) (out:=out) (a1:=a1) (m1:=m1) (c1:=c1) (a2:=a2) (m2:=m2) (c2:=c2) (a4:=a4) (m4:=m4) (c4:=c4) k _ CS b a' m' c' hkl hl W (h.below k'));exact pq (And.intro hkl (And.intro n3 (And.intro n4 (And.intro g1 (And.intro g2 (And.intro g3 (And.intro g4 (And.intro g5 HP))))))))):p:=h
theorem zH{p:Prop}(h:p:=by
 refine cN 21 af (aw WB) [0,1,2,3,4,5,6,8,9,10,11,12,13,14,15,16,17] 5 af af (fun _ _ d _ _ h=>bo) ⟨(Below.refl _ _).drew⟩ ?_;simp only[PL];apply ae;·exact la
 try simp only[PT]
 apply ae;·exact la
 try simp only[PT]
 apply ae;·exact la
 try simp only[PT]
 apply ae;·exact la
 try simp only[PT]
 apply ae;·exact la
 try simp only[PT]
 apply ae;·exact la
 try simp only[PT]
 apply ae;·exact la
 try simp only[PT]
 apply ae;·exact la
 try simp only[PT]
 apply ae;·exact la
 try simp only[PT]
 apply ae;·exact la
 try simp only[PT]
 apply ae;·exact la
 try simp only[PT]
 apply ae;·exact la
 try simp only[PT]
 apply ae;·exact la
 try simp only[PT]
 apply ae;·exact la
 try simp only[PT]
 apply ae;·exact la
 try simp only[PT]
 apply ae;·exact la
 try simp only[PT]
 apply ae;·exact la
 try simp only[PT]
 refine aC ?_;refine bg 7 af af ?_;simp only[aU];go_wp2_with fail;refine am ⟨xK⟩ ?_;refine bg 18 af af ?_;simp only[aU];go_wp2_with fail;refine am ⟨xK⟩ ?_;refine bg 19 af af ?_;simp only[aU];go_wp2_with fail;refine(wv id _ _ [SL,[#[p1,p2,p3,p4,p5,p6,p7,p8,p9,p10]],[]] _ (LQ _ hp1 HHS.out.1 HHS.out.2) ay (by first|(simp;done)|(simp;omega))).mono ?_;rintro e w2⟨v2,rfl,ho,hb⟩;have hb2:Below WB.heap.size WB w2:=Ps;obtain⟨g2,cap2,rfl,hg2,-⟩:=ho.shape ay;have hg2':WB.heap.size≤g2:=Nat.le_trans (mI _ _ _) hg2;have HO2:=Lib.hid (show aV w2 WB.heap.size 75 10 (G g2 (SL.length+1) cap2) (SL++[#[p1,p2,p3,p4,p5,p6,p7,p8,p9,p10]])from by simpa using ho.weaken (mI _ _ _));have HB2:=cD hb2 HB;have fB2:=HB2.out;simp only[Bx,Bo]at fB2;clear ho hb hg2;go_wp2;refine am ⟨xK⟩ ?_;refine dV af [20] 1 rfl af (fun _ _ d _ _ h=>bo) ⟨xK⟩ ?_;simp only[PL];apply ae;·exact la
 try simp only[PT]
 refine aC ?_;refine dp 21 rfl af af ?_;simp only[aU];go_wp2_with fail;refine am trivial ?_;refine dX af ?_;have HB5:=Lib.hid (HB2.out.set (i:=4) (C:=#[s,G g2 (SL.length+1) cap2]) (fun _ _ _ e=>iy));have d5:Below w.heap.size w (w2.setRow (w.heap.size+1+1+1+1) #[s,G g2 (SL.length+1) cap2]):=ai (bw.trans (hb2.mono aa)) aa _;have HO5:=Lib.hid (HO2.out.upto (aP (ax.refl (w.heap.size+1+1+1+1) w2) #[s,G g2 (SL.length+1) cap2]) aa);have s5:WB.heap.size≤(w2.setRow (w.heap.size+1+1+1+1) #[s,G g2 (SL.length+1) cap2]).heap.size:=by rw[cX];exact hb2.size
 clear fB2 HB2 HO2;generalize(w2.setRow (w.heap.size+1+1+1+1) #[s,G g2 (SL.length+1) cap2])=W5 at*;have fB5:=HB5.out;simp only[Bx,Bo,List.getElem?_cons_succ,List.getElem?_cons_zero,List.set_cons_succ,List.set_cons_zero]at fB5;go_wp2_with fail;refine(HP.out s (some ⟨g2,0,none⟩) (SL.length+1) cap2 _ d5).mono ?_;rintro e w3⟨v3,rfl,ho3,hb3⟩;obtain⟨g3,cap3,rfl,hg3,-⟩:=ho3.shape F3;have HO3:=Lib.hid ho3;have HB6:=Bx.mono hb3 HB5.out aF;have d6:=dE d5 hb3;simp only[Bx,Bo,List.getElem?_cons_succ,List.getElem?_cons_zero,List.set_cons_succ,List.set_cons_zero]at HB6;have HO6:=Lib.hid (HO5.out.below hb3);clear fB5 ho3 hb3;go_wp2;refine bodyPost_ret (v:=.agg (#[inn,out,E a1 m1 c1,E a2 m2 c2,G g3 (CS.set k #[s,G g2 (SL.length+1) cap2]).length cap3,E a4 m4 c4])) (aN (t:=47) Tryz.results90 _ _ _ rfl ?_ ?_ dF fu) rfl ?_;·go_simp
 ·go_simp
 exact⟨_,_,_,rfl,(HO3.out.upto (aP (ax.refl (w.heap.size+1+1+1) _) _) aa).weaken aa,(HO6.out.upto (aP (ax.refl (w.heap.size+1+1+1) _) _) aa).weaken aa,ai d6 aa _⟩):p:=h
theorem rE(w:World):w.drew.heap.size=w.heap.size:=id rfl
attribute[local go_sem high]rE
attribute[local simp high]rE
def vZ(m:Mm)(a b c:Int):Prop:=a=4∨(a=5∧0≤b∧b<m.sh.length)∨(a=6∧0≤b∧b<m.sh.length∧c=(m.sh.getD b.toNat (0,[])).2.length)
def iY(m:Mm)(a b c:Int)(v:Vl):Mm:=if a=4 then{m with bk:=v.bk}else if a=5 then{m with sh:=m.sh.set b.toNat (v.n,(m.sh.getD b.toNat (0,[])).2)}else{m with sh:=m.sh.set b.toNat ((m.sh.getD b.toNat (0,[])).1,(m.sh.getD b.toNat (0,[])).2++[v.p])}
theorem Bw(inn out:Int)(a1 a2 a3 a4 a5 a6:Option Addr)(m1 c1 m2 c2 m3 c3 m4 c4 m5 c5 m6 c6:Nat)(n b c:Int)(p1 p2 p3 p4 p5 p6 p7 p8 p9 p10:Value)(hp:p1.oneCell'=true∧p2.oneCell'=true∧p3.oneCell'=true∧p4.oneCell'=true∧p5.oneCell'=true∧p6.oneCell'=true∧p7.oneCell'=true∧p8.oneCell'=true∧p9.oneCell'=true∧p10.oneCell'=true)(bk:Option (List (Array Value)))(hbk:∀l,bk=some l→l.length≤100000){R:Nat→Prop}(w:World)(h:So R w (E a6 m6 c6) 7 bk):Calls Tryz.prog 90 #[.agg (#[inn,out,E a1 m1 c1,E a2 m2 c2,E a3 m3 c3,E a4 m4 c4]),.agg #[I 4,b,c],.agg #[n,p1,p2,p3,p4,p5,p6,p7,p8,p9,p10,E a5 m5 c5,E a6 m6 c6]] w fun e w'=>∃v',e= .returned (.agg (#[inn,out,E a1 m1 c1,v',E a3 m3 c3,E a4 m4 c4]))∧So (w.heap.size≤·) w' v' 7 bk∧Below w.heap.size w w':=by
 have HK:=Lib.hid (fun(W:World)(k:Below w.heap.size w W)=>rx _ bk hbk W (h.keep (Kp.below k) fun _ h=>h));clear h;go_enter Tryz.func90,Tryz.ntmps90;go_wp2_with fail;refine(HK.out _ bY).mono ?_;rintro e w2⟨v2,rfl,ho,hb⟩;have HO:=Lib.hid ho;obtain⟨av,nv,cv,rfl⟩:=ho.shape;simp only[World.size_alloc]at hb;have HB:=Bx.mono (g:=w.heap.size) (L:=[(47,6,#[inn,out,E a1 m1 c1,E a2 m2 c2,E a3 m3 c3,E a4 m4 c4]),(101,3,#[I 4,b,c]),(103,13,#[n,p1,p2,p3,p4,p5,p6,p7,p8,p9,p10,E a5 m5 c5,E a6 m6 c6]),(47,6,#[Z,Z,V,V,V,V])]) hb dY ay;have bw:=(show Below w.heap.size w _ from bY).trans (hb.mono aa);simp only[Bx,Bo]at HB;clear ho hb;go_wp2;refine bodyPost_ret (v:=.agg (#[inn,out,E a1 m1 c1,E av nv cv,E a3 m3 c3,E a4 m4 c4])) (aN (t:=47) Tryz.results90 _ _ _ rfl ?_ ?_ dF fu) rfl ?_;·go_simp
 ·go_simp
 exact⟨_,rfl,HO.out.keep ((Kp.setRow uF).trans (Kp.setRow uF)) (fun q hq=>by simp at hq⊢;omega),ai (ai bw aa _) aa _⟩
theorem By(inn out:Int)(a1 a2 a3 a4 a5 a6:Option Addr)(m1 c1 m2 c2 m3 c3 m4 c4 m5 c5 m6 c6:Nat)(n b c:Int)(p1 p2 p3 p4 p5 p6 p7 p8 p9 p10:Value)(hp:p1.oneCell'=true∧p2.oneCell'=true∧p3.oneCell'=true∧p4.oneCell'=true∧p5.oneCell'=true∧p6.oneCell'=true∧p7.oneCell'=true∧p8.oneCell'=true∧p9.oneCell'=true∧p10.oneCell'=true)(s:Int)(a:Option Addr)(m cs:Nat)(k:Nat)(CS:List (Array Value))(hk:CS[k]? =some #[.int .i64 s,.slice a m cs])(hl:CS.length≤1000)(w:World)(h:Sl w (E a3 m3 c3) 2 CS):Calls Tryz.prog 90 #[.agg (#[inn,out,E a1 m1 c1,E a2 m2 c2,E a3 m3 c3,E a4 m4 c4]),.agg #[I 5,k,c],.agg #[n,p1,p2,p3,p4,p5,p6,p7,p8,p9,p10,E a5 m5 c5,E a6 m6 c6]] w fun e w'=>∃v',e= .returned (.agg (#[inn,out,E a1 m1 c1,E a2 m2 c2,v',E a4 m4 c4]))∧aV w' w.heap.size 129 2 v' (CS.set k #[n,E a m cs])∧Below w.heap.size w w':=by
 obtain⟨g,o,cL,e0,hg,e1,e2,e3,e4⟩:=eC h hk;simp only[Value.slice.injEq]at e0;obtain⟨rfl,rfl,rfl⟩:=e0;obtain⟨hkl,n3,n4,g1,g2,g3,g4,g5,HP⟩:=yX;clear h hk;go_enter Tryz.func90,Tryz.ntmps90;go_wp2_with fail;refine(HP.out _ _ _ _ _ bY).mono ?_;rintro e w2⟨v2,rfl,ho,hb⟩;obtain⟨g2,cap,rfl,hg2,-⟩:=ho.shape F3;have HO:=Lib.hid ho;simp only[World.size_alloc]at hb hg2;have HB:=Bx.mono (g:=w.heap.size) (L:=[(47,6,#[inn,out,E a1 m1 c1,E a2 m2 c2,E (some ⟨g,o,none⟩) CS.length c3,E a4 m4 c4]),(101,3,#[I 5,k,c]),(103,13,#[n,p1,p2,p3,p4,p5,p6,p7,p8,p9,p10,E a5 m5 c5,E a6 m6 c6]),(47,6,#[Z,Z,V,V,V,V])]) hb dY ay;have bw:=(show Below w.heap.size w _ from bY).trans (hb.mono aa);simp only[Bx,Bo]at HB;clear ho hb;go_wp2;refine bodyPost_ret (v:=.agg (#[inn,out,E a1 m1 c1,E a2 m2 c2,G g2 (CS.set k #[n,E a m cs]).length cap,E a4 m4 c4])) (aN (t:=47) Tryz.results90 _ _ _ rfl ?_ ?_ dF fu) rfl ?_;·go_simp
 ·go_simp
 exact⟨_,rfl,(HO.out.upto (aP (ax.refl (w.heap.size+1+1+1) _) _) ay).weaken aF,ai bw aa _⟩
theorem LQ{W:World}{s1 s3:Value}{SL:List (Array Value)}(C:Array Value)(hC:C.size=10∧bB C=true)(h1:Sl W s1 10 SL)(h3:Sl W s3 10 []):mW id ((W.alloc (.cells C 75)).alloc (.cells #[s1,G W.heap.size 1 1,s3] 55)).drew (W.heap.size+1) [s1,G W.heap.size 1 1,s3] [SL,[C],[]]:=by
 have b1:Below W.heap.size W (W.alloc (.cells C 75)):=(Below.refl _ _).alloc (Nat.le_refl _) _;have b2:∀o,Below (W.alloc (.cells C 75)).heap.size (W.alloc (.cells C 75)) ((W.alloc (.cells C 75)).alloc o).drew:=fun o=>((Below.refl _ _).alloc (Nat.le_refl _) _).drew;refine⟨?_,rfl,fun i v l hv hl=>?_⟩;·unfold gg;have:=(MapKept.heap_alloc (W.alloc (.cells C 75)) (.cells #[s1,G W.heap.size 1 1,s3] 55)).1;rw[World.size_alloc]at this;exact this
 ·match i,hv,hl with
   |0,hv,hl=>cases hv;cases hl;simpa using(h1.below b1).below (b2 _)
   |1,hv,hl=>cases hv;cases hl;exact(cY W C 75 10 _ rfl hC.1 hC.2).below (b2 _)
   |2,hv,hl=>cases hv;cases hl;simpa using(h3.below b1).below (b2 _)
   |n+3,hv,hl=>simp at hv
theorem FO(W:World)(a b:Obj):Below W.heap.size W ((W.alloc a).alloc b).drew:=(((Below.refl _ _).alloc (Nat.le_refl _) _).alloc ay _).drew
theorem mI(W:World)(a b:Obj):W.heap.size≤((W.alloc a).alloc b).drew.heap.size:=(FO W a b).size
theorem Bz(inn out:Int)(a1 a2 a3 a4 a5 a6:Option Addr)(m1 c1 m2 c2 m3 c3 m4 c4 m5 c5 m6 c6:Nat)(n b c:Int)(p1 p2 p3 p4 p5 p6 p7 p8 p9 p10:Value)(hp:p1.oneCell'=true∧p2.oneCell'=true∧p3.oneCell'=true∧p4.oneCell'=true∧p5.oneCell'=true∧p6.oneCell'=true∧p7.oneCell'=true∧p8.oneCell'=true∧p9.oneCell'=true∧p10.oneCell'=true)(s:Int)(a:Option Addr)(SL:List (Array Value))(cs:Nat)(k:Nat)(CS:List (Array Value))(hk:CS[k]? =some #[.int .i64 s,.slice a SL.length cs])(hl:CS.length≤1000)(hsl:SL.length≤900)(w:World)(h:Sl w (E a3 m3 c3) 2 CS)(hs:Sl w (E a SL.length cs) 10 SL):Calls Tryz.prog 90 #[.agg (#[inn,out,E a1 m1 c1,E a2 m2 c2,E a3 m3 c3,E a4 m4 c4]),.agg #[I 6,k,SL.length],.agg #[n,p1,p2,p3,p4,p5,p6,p7,p8,p9,p10,E a5 m5 c5,E a6 m6 c6]] w fun e w'=>∃v' a' c',e= .returned (.agg (#[inn,out,E a1 m1 c1,E a2 m2 c2,v',E a4 m4 c4]))∧aV w' w.heap.size 129 2 v' (CS.set k #[s,E a' (SL.length+1) c'])∧aV w' w.heap.size 75 10 (E a' (SL.length+1) c') (SL++[#[p1,p2,p3,p4,p5,p6,p7,p8,p9,p10]])∧Below w.heap.size w w':=by
 have hp1:=Lib.hid (show(#[p1,p2,p3,p4,p5,p6,p7,p8,p9,p10]:Array Value).size=10∧bB #[p1,p2,p3,p4,p5,p6,p7,p8,p9,p10]=true from⟨rfl,by simp[bW,bi,bF,hp]⟩);obtain⟨g,o,cL,e0,hg,e1,e2,e3,e4⟩:=eC h hk;simp only[Value.slice.injEq]at e0;obtain⟨rfl,rfl,rfl⟩:=e0;obtain⟨hkl,n3,n4,g1,g2,g3,g4,g5,HP⟩:=yX;have HS:=Lib.hid hs;obtain⟨a',cap',ev,k1,k2,k3⟩:=hs;simp only[Value.slice.injEq,true_and]at ev;obtain⟨rfl,rfl⟩:=ev;have n5:¬((SL.length:Int)<(SL.length:Int)):=aa;have hw1:IntKind.i64.wrap ((SL.length:Int)+1)=(SL.length:Int)+1:=eD;have hmin:min ((SL.length:Int)+1) (SL.length:Int)=(SL.length:Int):=aa;clear h hk;go_enter Tryz.func90,Tryz.ntmps90;go_wp2_with fail;go_upto_region 14 with(fail);have HB:=Lib.hid (dY:Bx (((((w.alloc (.cells #[inn,out,E a1 m1 c1,E a2 m2 c2,E (some ⟨g,o,none⟩) CS.length c3,E a4 m4 c4] 47)).alloc (.cells #[I 6,k,SL.length] 101)).alloc (.cells #[n,p1,p2,p3,p4,p5,p6,p7,p8,p9,p10,E a5 m5 c5,E a6 m6 c6] 103)).alloc (.cells #[Z,Z,V,V,V,V] 47)).alloc (.cells #[s,E a SL.length cs] 129)) w.heap.size [(47,6,#[inn,out,E a1 m1 c1,E a2 m2 c2,E (some ⟨g,o,none⟩) CS.length c3,E a4 m4 c4]),(101,3,#[I 6,k,SL.length]),(103,13,#[n,p1,p2,p3,p4,p5,p6,p7,p8,p9,p10,E a5 m5 c5,E a6 m6 c6]),(47,6,#[Z,Z,V,V,V,V]),(129,2,#[s,E a SL.length cs])]);have bw:Below w.heap.size w (((((w.alloc (.cells #[inn,out,E a1 m1 c1,E a2 m2 c2,E (some ⟨g,o,none⟩) CS.length c3,E a4 m4 c4] 47)).alloc (.cells #[I 6,k,SL.length] 101)).alloc (.cells #[n,p1,p2,p3,p4,p5,p6,p7,p8,p9,p10,E a5 m5 c5,E a6 m6 c6] 103)).alloc (.cells #[Z,Z,V,V,V,V] 47)).alloc (.cells #[s,E a SL.length cs] 129)):=bY;have bs:w.heap.size+1+1+1+1+1≤(((((w.alloc (.cells #[inn,out,E a1 m1 c1,E a2 m2 c2,E (some ⟨g,o,none⟩) CS.length c3,E a4 m4 c4] 47)).alloc (.cells #[I 6,k,SL.length] 101)).alloc (.cells #[n,p1,p2,p3,p4,p5,p6,p7,p8,p9,p10,E a5 m5 c5,E a6 m6 c6] 103)).alloc (.cells #[Z,Z,V,V,V,V] 47)).alloc (.cells #[s,E a SL.length cs] 129)).heap.size:=ay;generalize(((((w.alloc (.cells #[inn,out,E a1 m1 c1,E a2 m2 c2,E (some ⟨g,o,none⟩) CS.length c3,E a4 m4 c4] 47)).alloc (.cells #[I 6,k,SL.length] 101)).alloc (.cells #[n,p1,p2,p3,p4,p5,p6,p7,p8,p9,p10,E a5 m5 c5,E a6 m6 c6] 103)).alloc (.cells #[Z,Z,V,V,V,V] 47)).alloc (.cells #[s,E a SL.length cs] 129))=WB at*;rcases k3 with⟨rfl,rfl⟩|⟨g',o',rfl,hg',k3⟩;·
  skip;have hw2:IntKind.i64.wrap 1=1:=eD;have hm2:min (1:Int) 0=0:=aa;have HHS:=Lib.hid (And.intro (show Sl WB (E none 0 cs) 10 []from⟨none,cs,rfl,Nat.zero_le _,k2,.inl ⟨rfl,rfl⟩⟩) (show Sl WB (E none 0 cs) 10 []from⟨none,cs,rfl,Nat.zero_le _,k2,.inl ⟨rfl,rfl⟩⟩));refine cN 21 af (aw WB) [0,1,2,3,4,5,6,8,9,10,11,12,13,14,15,16,17] 5 af af (fun _ _ d _ _ h=>bo) ⟨(Below.refl _ _).drew⟩ ?_;simp only[PL];apply ae;·exact la
  try simp only[PT]
  apply ae;·exact la
  try simp only[PT]
  apply ae;·exact la
  try simp only[PT]
  apply ae;·exact la
  try simp only[PT]
  apply ae;·exact la
  try simp only[PT]
  apply ae;·exact la
  try simp only[PT]
  apply ae;·exact la
  try simp only[PT]
  apply ae;·exact la
  try simp only[PT]
  apply ae;·exact la
  try simp only[PT]
  apply ae;·exact la
  try simp only[PT]
  apply ae;·exact la
  try simp only[PT]
  apply ae;·exact la
  try simp only[PT]
  apply ae;·exact la
  try simp only[PT]
  apply ae;·exact la
  try simp only[PT]
  apply ae;·exact la
  try simp only[PT]
  apply ae;·exact la
  try simp only[PT]
  apply ae;·exact la
  try simp only[PT]
  refine aC ?_;refine bg 7 af af ?_;simp only[aU];go_wp2_with fail;refine am ⟨xK⟩ ?_;refine bg 18 af af ?_;simp only[aU];go_wp2_with fail;refine am ⟨xK⟩ ?_;refine bg 19 af af ?_;simp only[aU];go_wp2_with fail;refine(wv id _ _ [([]:List (Array Value)),[#[p1,p2,p3,p4,p5,p6,p7,p8,p9,p10]],[]] _ (LQ _ hp1 HHS.out.1 HHS.out.2) ay (by first|(simp;done)|(simp;omega))).mono ?_;rintro e w2⟨v2,rfl,ho,hb⟩;have hb2:Below WB.heap.size WB w2:=Ps;obtain⟨g2,cap2,rfl,hg2,-⟩:=ho.shape ay;have hg2':WB.heap.size≤g2:=Nat.le_trans (mI _ _ _) hg2;have HO2:=Lib.hid (show aV w2 WB.heap.size 75 10 (G g2 (1) cap2) (([]:List (Array Value))++[#[p1,p2,p3,p4,p5,p6,p7,p8,p9,p10]])from by simpa using ho.weaken (mI _ _ _));have HB2:=cD hb2 HB;have fB2:=HB2.out;simp only[Bx,Bo]at fB2;clear ho hb hg2;go_wp2;refine am ⟨xK⟩ ?_;refine dV af [20] 1 rfl af (fun _ _ d _ _ h=>bo) ⟨xK⟩ ?_;simp only[PL];apply ae;·exact la
  try simp only[PT]
  refine aC ?_;refine dp 21 rfl af af ?_;simp only[aU];go_wp2_with fail;refine am trivial ?_;refine dX af ?_;have HB5:=Lib.hid (HB2.out.set (i:=4) (C:=#[s,G g2 (1) cap2]) (fun _ _ _ e=>iy));have d5:Below w.heap.size w (w2.setRow (w.heap.size+1+1+1+1) #[s,G g2 (1) cap2]):=ai (bw.trans (hb2.mono aa)) aa _;have HO5:=Lib.hid (HO2.out.upto (aP (ax.refl (w.heap.size+1+1+1+1) w2) #[s,G g2 (1) cap2]) aa);have s5:WB.heap.size≤(w2.setRow (w.heap.size+1+1+1+1) #[s,G g2 (1) cap2]).heap.size:=by rw[cX];exact hb2.size
  clear fB2 HB2 HO2;generalize(w2.setRow (w.heap.size+1+1+1+1) #[s,G g2 (1) cap2])=W5 at*;have fB5:=HB5.out;simp only[Bx,Bo,List.getElem?_cons_succ,List.getElem?_cons_zero,List.set_cons_succ,List.set_cons_zero]at fB5;go_wp2_with fail;refine(HP.out s (some ⟨g2,0,none⟩) (1) cap2 _ d5).mono ?_;rintro e w3⟨v3,rfl,ho3,hb3⟩;obtain⟨g3,cap3,rfl,hg3,-⟩:=ho3.shape F3;have HO3:=Lib.hid ho3;have HB6:=Bx.mono hb3 HB5.out aF;have d6:=dE d5 hb3;simp only[Bx,Bo,List.getElem?_cons_succ,List.getElem?_cons_zero,List.set_cons_succ,List.set_cons_zero]at HB6;have HO6:=Lib.hid (HO5.out.below hb3);clear fB5 ho3 hb3;go_wp2;refine bodyPost_ret (v:=.agg (#[inn,out,E a1 m1 c1,E a2 m2 c2,G g3 (CS.set k #[s,G g2 (1) cap2]).length cap3,E a4 m4 c4])) (aN (t:=47) Tryz.results90 _ _ _ rfl ?_ ?_ dF fu) rfl ?_;·go_simp
  ·go_simp
  exact⟨_,_,_,rfl,(HO3.out.upto (aP (ax.refl (w.heap.size+1+1+1) _) _) aa).weaken aa,(HO6.out.upto (aP (ax.refl (w.heap.size+1+1+1) _) _) aa).weaken aa,ai d6 aa _⟩
 ·have g1':g'<WB.heap.size:=aa;have n6:(SL.length:Int)≤(cs:Int):=aa;have n7:0≤(SL.length:Int):=aa;clear k3;by_cases hcap:SL.length=cs;·subst hcap;have HHS:=Lib.hid (And.intro (HS.out.below bw) (show Sl WB (E (some ⟨g',o',none⟩) 0 0) 10 []from⟨_,0,rfl,Nat.zero_le _,Nat.zero_le _,.inr ⟨g',o',rfl,g1',fun i C h=>by simp at h⟩⟩));exact zH
  ·have hcap2:¬(cs=SL.length):=fun e=>hcap e.symm;have HHS:=Lib.hid (And.intro (HS.out.below bw) (show Sl WB (E (some ⟨g',o'+SL.length*10,none⟩) 0 (cs-SL.length)) 10 []from⟨_,_,rfl,Nat.zero_le _,aa,.inr ⟨g',_,rfl,g1',fun i C h=>by simp at h⟩⟩));exact zH
end
section
section
variable{R:Nat→Prop}{W W':World}{B:Nat}
abbrev Rn(R:Nat→Prop)(B:Nat):Nat→Prop:=fun q=>R q∨B≤q
theorem aV.sr{e:TypeId}{n:Nat}{v:Value}{L:List (Array Value)}(h:aV W B e n v L):Sr (B≤·) W v n L:=⟨h.sl,fun q hq=>(h.base hq).1⟩
theorem Sr.old{v:Value}{n:Nat}{L:List (Array Value)}(h:Sr R W v n L)(k:Below W.heap.size W W'):Sr (Rn R B) W' v n L:=h.keep (Kp.below k) fun _ h=>.inl h
theorem Sr.new{v:Value}{n:Nat}{L:List (Array Value)}(h:Sr (B≤·) W v n L):Sr (Rn R B) W v n L:=⟨h.1,fun q hq=>.inr (h.2 q hq)⟩
theorem So.old{v:Value}{n:Nat}{L:Option (List (Array Value))}(h:So R W v n L)(k:Below W.heap.size W W'):So (Rn R B) W' v n L:=h.keep (Kp.below k) fun _ h=>.inl h
theorem So.new{v:Value}{n:Nat}{L:Option (List (Array Value))}(h:So (B≤·) W v n L):So (Rn R B) W v n L:=h.keep (Kp.below (Below.refl _ _)) fun _ h=>.inr h
theorem Se.old{α:Type}{P:(Nat→Prop)→World→Array Value→α→Prop}(hP:jC P){v:Value}{n:Nat}{xs:List α}(h:Se P R W v n xs)(k:Below W.heap.size W W'):Se P (Rn R B) W' v n xs:=h.keep hP (Kp.below k) fun _ h=>.inl h
theorem lC{α:Type}{P:World→Array Value→α→Prop}{L:List (Array Value)}{xs:List α}(h:i5 P W L xs)(k:Nat){C:Array Value}{x:α}(hC:P W C x):i5 P W (L.set k C) (xs.set k x):=h.set hC k
end
theorem OE(n:Int)(p1 p2 p3 p4 p5 p6 p7 p8 p9 p10 a b:Value):vC n #[p1,p2,p3,p4,p5,p6,p7,p8,p9,p10] a b=(#[n,p1,p2,p3,p4,p5,p6,p7,p8,p9,p10,a,b]:AV):=rfl
theorem NG(S:Nat)(h1:S≤8)(m:Mm)(hm:Fb S m)(a b c:Int)(hst:vZ m a b c)(v:Vl)(hv:∀l,v.bk=some l→l.length≤100000){R:Nat→Prop}(M CV:Array Value)(w:World)(hM:o5 R w M m)(hV:jD R w CV v):Calls Tryz.prog 90 #[.agg M,.agg #[a,b,c],.agg CV] w fun e w'=>∃M',e= .returned (.agg M')∧o5 (Rn R w.heap.size) w' M' (iY m a b c v)∧Below w.heap.size w w':=by
 obtain⟨sb,sk,rfl,hp,hp1,v1,v2⟩:=hV;obtain⟨p1,p2,p3,p4,p5,p6,p7,p8,p9,p10,ep,hpp⟩:=wj hp hp1;obtain⟨a5,m5,c5,rfl⟩:=v1.shape;obtain⟨a6,m6,c6,rfl⟩:=v2.shape;obtain⟨tb,tk,vS,vL,rfl,h2,h3,h4,h5⟩:=hM;obtain⟨a1,m1,c1,rfl⟩:=h2.shape;obtain⟨a2,m2,c2,rfl⟩:=h3.shape;obtain⟨a3,c3,rfl⟩:=h4.shape;obtain⟨a4,c4,rfl⟩:=h5.shape;rw[ep,OE];obtain⟨CS,hs,he⟩:=h4;have hsh:=hm.sh;have hCS:CS.length=m.sh.length:=he.1;rcases hst with rfl|⟨rfl,p0,pS⟩|⟨rfl,p0,pS,hc⟩;·refine(Bw m.inn m.out a1 a2 a3 a4 a5 a6 m1 c1 m2 c2 _ c3 _ c4 m5 c5 m6 c6 v.n b c p1 p2 p3 p4 p5 p6 p7 p8 p9 p10 hpp v.bk hv w v2).mono ?_;rintro e w'⟨v',rfl,ho,hb⟩;exact⟨_,rfl,⟨_,_,_,_,rfl,h2.old hb,ho.new,Se.old (P:=Fa) iH ⟨CS,hs,he⟩ hb,Se.old (P:=DK) iK h5 hb⟩,hb⟩
 ·obtain⟨k,rfl⟩:=Int.eq_ofNat_of_zero_le p0;obtain⟨D,hk,u,rfl,hu⟩:=jJ he (k:=k) aa (0,[]);obtain⟨a',c',eu,-⟩:=id hu.1;subst eu;refine(By m.inn m.out a1 a2 a3 a4 a5 a6 m1 c1 m2 c2 _ c3 _ c4 m5 c5 m6 c6 v.n 0 c p1 p2 p3 p4 p5 p6 p7 p8 p9 p10 hpp _ a' _ c' k CS hk aa w hs.1).mono ?_;rintro e w'⟨v',rfl,ho,hb⟩;obtain⟨a7,c7,e7,-⟩:=id ho.sl;refine⟨_,rfl,⟨_,_,_,_,rfl,h2.old hb,h3.old hb,⟨_,ho.sr.new,?_⟩,Se.old (P:=DK) iK h5 hb⟩,hb⟩;exact lC (i5.keep (P:=Fa) iH he (Kp.below hb) fun _ h=>.inl h) k ⟨_,rfl,hu.old hb⟩
 ·obtain⟨k,rfl⟩:=Int.eq_ofNat_of_zero_le p0;obtain⟨D,hk,u,rfl,hu⟩:=jJ he (k:=k) aa (0,[]);obtain⟨a',c',eu,-⟩:=id hu.1;subst eu;have hc':c=((m.sh.getD k (0,[])).2.length:Int):=hc;subst hc';have hlen:(m.sh.getD k (0,[])).2.length≤900:=by rw[List.getD_eq_getElem?_getD,List.getElem?_eq_getElem aa];exact hm.sl _ (List.getElem_mem _)
  refine(Bz m.inn m.out a1 a2 a3 a4 a5 a6 m1 c1 m2 c2 _ c3 _ c4 m5 c5 m6 c6 v.n 0 0 p1 p2 p3 p4 p5 p6 p7 p8 p9 p10 hpp _ a' _ c' k CS hk aa hlen w hs.1 hu.1).mono ?_;rintro e w'⟨v',a8,c8,rfl,ho,ho2,hb⟩;refine⟨_,rfl,⟨_,_,_,_,rfl,h2.old hb,h3.old hb,⟨_,ho.sr.new,?_⟩,Se.old (P:=DK) iK h5 hb⟩,hb⟩;refine lC (i5.keep (P:=Fa) iH he (Kp.below hb) fun _ h=>.inl h) k ⟨_,rfl,?_⟩;have:=ho2.sr.new (R:=R);rw[←ep]at this;exact this
end
end Go.Proofs.YtnncjbkepakgpaaGreat
