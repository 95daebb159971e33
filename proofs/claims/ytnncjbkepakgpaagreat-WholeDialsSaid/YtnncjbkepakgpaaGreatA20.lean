/- SLICES OF INTEGERS: a number is searched in a rising one; is laid in between. WHO SHARES A LOCK. -/
import Derived.Test.YtnncjbkepakgpaaGreatA19
import Derived.Shelf.Slices.Empties
namespace Go.Proofs.YtnncjbkepakgpaaGreat
open Go.RowKit Qv
set_option linter.unusedVariables false
set_option linter.unusedSimpArgs false
set_option maxRecDepth 100000
set_option maxHeartbeats 400000
section
open Go.RowKit Go.Shelf
def bM(x:Nat):Value:=x
theorem lG{W:World}{g o N cap:Nat}{L:List Nat}(h:Sl W (E (some ⟨g,o,none⟩) N cap) 1 (L.map qE)){j x:Nat}(hx:L[j]? =some x):W.cell? ⟨g,o+j,none⟩=some (bM x):=by
 obtain⟨a,cap',e,h1,h2,h3⟩:=h;cases e;rcases h3 with⟨e,_⟩|⟨g',o',e,hg,h3⟩;·cases e
 ·cases e;have:=(h3 j (qE x) mR).cell (k:=0) (v:=bM x) rfl;simpa using this
theorem oU{W:World}{g o cap:Nat}{L:List Nat}(hg:g<W.heap.size)(hc:L.length≤cap)(hm:cap≤maxLen)(h:∀j x,L[j]? =some x→W.cell? ⟨g,o+j,none⟩=some (bM x)):Sl W (E (some ⟨g,o,none⟩) L.length cap) 1 (L.map qE):=by
 refine⟨_,cap,ay,uH,hm,.inr ⟨g,o,rfl,hg,fun i C hC=>?_⟩⟩;rw[List.getElem?_map]at hC;cases hx:L[i]? with
  |none=>rw[hx]at hC;cases hC
  |some x=>
   rw[hx]at hC;cases hC;have hr:=fO (W:=W) (p:=⟨g,o+i*1,none⟩) (cs:=[bM x]) (n:=1) rfl (fun k v hk=>by
    match k,hk with
     |0,hk=>cases hk;have:=h i x hx;simpa[cF]using this
     |k+1,hk=>simp at hk);exact⟨hg,hr.1,hr.2,rfl⟩
theorem Bl(l:List Nat)(who:Nat)(hs:l.Pairwise (·≤·))(hl:l.length≤100000)(v:Value)(w:World)(h:Sl w v 1 (l.map qE)):Calls Tryz.prog 129 #[v,who] w fun e w'=>e= .returned (.tuple #[I (l.countP (·<who):Nat),.bool (l.contains who)])∧Below w.heap.size w w':=by
 have h0:=h;obtain⟨a,cap,rfl,h1,h2,h3⟩:=h;simp only[List.length_map]at h1 h0⊢;rcases h3 with⟨rfl,h3⟩|⟨g,o,rfl,hg,h3⟩;·have:l=[]:=xV;subst this;refine(Any.slices_BinarySearch_int_empty C4 none cap who w).mono ?_;rintro e w'⟨rfl,rfl⟩;exact⟨rfl,Below.refl _ _⟩
 ·have hz:∀j,j<(l.map (fun n:Nat=>(n:Int))).length→w.cell? ⟨g,o+j,none⟩=some (.int .i64 ((l.map (fun n:Nat=>(n:Int))).getD j 0)):=fun j hj=>by have hj':j<l.length:=lx;rw[lG h0 (List.getElem?_eq_getElem hj')];simp[bM,List.getD_eq_getElem?_getD,hj']
  refine(Any.slices_BinarySearch_int C4 g o l.length cap (l.map (fun n:Nat=>(n:Int))) who w ay aa hz ?_).mono ?_;·rw[List.take_of_length_le ay,List.pairwise_map];exact hs.imp fun h=>aa
  ·rintro e w'⟨rfl,q,rfl⟩;refine⟨?_,below_drewN' (Below.refl _ _) q⟩;rw[List.take_of_length_le ay,List.countP_map];have e1:(l.map (fun n:Nat=>(n:Int))).contains (who:Int)=l.contains who:=by rw[Bool.eq_iff_iff];simp only[List.contains_iff_mem,List.mem_map];exact⟨fun⟨a,h,e⟩=>by have:a=who:=aa;subst this;exact h,fun h=>⟨who,h,rfl⟩⟩
   rw[e1];congr 5;congr 2;funext x;simp
def iI(l:List Nat)(i x:Nat):List Nat:=l.take i++x::l.drop i
theorem eY{l:List Nat}{i:Nat}(x:Nat)(hi:i≤l.length):(iI l i x).length=l.length+1:=by unfold iI;simp;omega
theorem yB{l:List Nat}{i x j:Nat}(hi:i≤l.length)(hj:j<i):(iI l i x)[j]? =l[j]? :=by unfold iI;rw[List.getElem?_append_left aF,List.getElem?_take,if_pos hj]
theorem yz{l:List Nat}{i x:Nat}(hi:i≤l.length):(iI l i x)[i]? =some x:=by unfold iI;rw[List.getElem?_append_right aF];simp[Nat.min_eq_left hi]
theorem yA{l:List Nat}{i x j:Nat}(hi:i≤l.length)(hj:i<j):(iI l i x)[j]? =l[j-1]? :=by unfold iI;rw[List.getElem?_append_right aF];simp only[List.length_take,Nat.min_eq_left hi];rw[show j-i=(j-i-1)+1 by omega,List.getElem?_cons_succ,List.getElem?_drop];congr 1;omega
theorem uV(l:List Nat)(x:Nat):iI l l.length x=l++[x]:=by unfold iI;simp
theorem ve{W:World}{L:List Nat}{Zx:Array Value}{cap:Nat}(hc:L.length≤cap)(hm:cap≤maxLen):Sl (W.alloc (.cells ((L.map bM).toArray++Zx) 3)) (G W.heap.size L.length cap) 1 (L.map qE):=oU ay hc hm fun j x hx=>by rw[Nat.zero_add,World.cell?_alloc_at (w:=W) _ _ W.heap.size j rfl];have hj:j<L.length:=(List.getElem?_eq_some_iff.1 hx).1;rw[Array.getElem?_append_left lx];simp[hx]
theorem below_setCells{B g:Nat}{a:World}(hg:B≤g):∀(vs:List Value)(s:Nat)(w:World),Below B a w→Below B a (w.setCells g s vs)
 |[],_,w,h=>h
 |v::r,s,w,h=>below_setCells hg r (s+1) _ (h.setCell hg v)
theorem fQ(g:Nat)(vs:List Value)(s:Nat)(w:World):w.heap.size≤(w.setCells g s vs).heap.size:=(below_setCells (B:=0) (Nat.zero_le _) vs s w (Below.refl 0 w)).size
theorem A9(l:List Nat)(i who B vb:Nat)(hi:i≤l.length)(hl:l.length≤100000)(v:Value)(w:World)(h:aV w B 3 1 v (l.map qE))(hvb:vb<w.heap.size)(hne:v.ownBlock≠some vb)(hrow:w.heap[vb]? =some (.cells #[bM who] 3 (0,0)))(hB:B≤w.heap.size):Calls Tryz.prog 130 #[v,i,G vb 1 1] w fun e w'=>∃v',e= .returned v'∧Sl w' v' 1 ((iI l i who).map qE)∧(∀q,v'.ownBlock=some q→B≤q)∧Below B w w':=by
 have hS:=h.sl;have hvs:∀j v,[bM who][j]? =some v→w.cell? ⟨vb,0+j,none⟩=some v:=fun j v hj=>by
  match j,hj with
   |0,hj=>cases hj;simp[World.cell?,hrow]
   |j+1,hj=>simp at hj
 have h1v:∀v∈[bM who],v.oneCell'=true:=fun v hv=>by simp at hv;subst hv;rfl
 have h1c:∀v∈l.map bM,v.oneCell'=true:=fun v hv=>by obtain⟨x,_,rfl⟩:=List.mem_map.1 hv;rfl
 have hlen:(l.map bM).length=l.length:=ay;have hlc:(flat (l.map qE)).length=l.length*1:=by rw[eR (n:=1) fun C hC=>(h.2 C hC).1];simp
 have hbelow:∀W:World,W.heap.size=w.heap.size+1→(∀q,q<w.heap.size→W.heap[q]? =w.heap[q]?)→W.os=w.os→W.tape=w.tape→W.output=w.output→Below B w W:=fun W h1 h2 h3 h4 h5=>⟨h3,h4,h5,aa,fun k hk=>h2 k aa⟩;obtain⟨⟨k1,k2⟩,k3⟩:=h;rcases k2 with⟨rfl,k2⟩|⟨g,cap,cur,rfl,hg,hgr,hc,hm,hz,ht⟩;·
  have:l=[]:=by simpa using k2
  subst this;have hi0:i=0:=lw;subst hi0;refine(Any2.slices_Insert_int_end_grow oq none 0 0 vb 0 1 1 [] [bM who] w aa aa aa aa rfl rfl (fun _=>rfl) (fun a ha=>by cases ha) hvs h1v).mono ?_;rintro e w'⟨rfl,rfl⟩;refine⟨_,rfl,?_,fun q hq=>?_,?_⟩;·have:=ve (W:=w.drew) (L:=[who]) (Zx:=Builtin.zeroCells (Value.int .i64 0).cells (grownCap w (0+1) 0 3-(0+1))) (cap:=grownCap w (0+1) 0 3) (grownCap_ge _ _ _ _) (grownCap_le_maxLen _ _ _ _ az);exact this
  ·simp only[Value.ownBlock,Option.some.injEq]at hq;omega
  ·exact((Below.refl B w).drew).alloc (by exact hB) _
 ·have hgl:g<w.heap.size:=(Array.getElem?_eq_some_iff.1 hgr).1;have hgv:vb≠g:=fun e=>hne ro;simp only[List.length_map]at hc hS ht⊢;have hcs:∀j v,(l.map bM)[j]? =some v→w.cell? ⟨g,0+j,none⟩=some v:=fun j v hj=>by
   rw[List.getElem?_map]at hj;cases hx:l[j]? with
    |none=>rw[hx]at hj;cases hj
    |some x=>rw[hx]at hj;cases hj;exact lG hS hx
  have hsome:∀j,j<cap→(w.cell? ⟨g,0+j,none⟩).isSome=true:=fun j hj=>by have:j<cur.size:=aa;simp[World.cell?,hgr,this]
  have hfz:∀j,w.frozen? ⟨g,0+j,none⟩=false:=fun j=>by simp[World.frozen?,hgr]
  have hbw:Below B w w.drew:=(Below.refl B w).drew;by_cases hr:l.length+1≤cap;·
   by_cases hil:i=l.length;·
    subst hil;refine(Any2.slices_Insert_int_end_room oq g 0 l.length cap vb 0 1 1 [bM who] w aa hr (by unfold maxLen at hm;omega) rfl (fun j hj=>?_) (fun j hj=>?_) hvs h1v).mono ?_;·have:=hsome (l.length+j) aa;simpa[Nat.add_assoc]using this
    ·have:=hfz (l.length+j);simpa[Nat.add_assoc]using this
    rintro e w'⟨rfl,rfl⟩;refine⟨_,rfl,?_,fun q hq=>?_,?_⟩;·
     rw[uV];have:=oU (W:=w.setCells g (0+l.length) [bM who]) (g:=g) (o:=0) (cap:=cap) (L:=l++[who]) (Nat.lt_of_lt_of_le hgl (fQ _ _ _ _)) (by simpa using hr) hm (fun j x hx=>by
      by_cases hj:j<l.length;·rw[List.getElem?_append_left hj]at hx;rw[World.cell?_setCells_out _ _ _ _ _ (fun _ _=>.inl lx)];exact lG hS hx
      ·have hj2:j=l.length:=by have:=(List.getElem?_eq_some_iff.1 hx).1;simp at this;omega
       subst hj2;simp at hx;subst hx;have:=World.cell?_setCells_in g [bM who] (0+l.length) w (fun j hj=>by have hj0:j=0:=lx;subst hj0;have:=hsome l.length aa;simpa using this) 0 ay;simpa using this);simpa using this
    ·simp only[Value.ownBlock,Option.some.injEq]at hq;omega
    ·exact below_setCells hg _ _ _ (Below.refl B w)
   ·have hin:i<l.length:=aa;refine(Any2.slices_Insert_int_shift oq g 0 l.length cap i vb 0 1 1 (l.map bM) [bM who] w hin aa hr (by unfold maxLen at hm;omega) hgv hlen rfl hcs (fun j hj=>hsome j aa) (fun j hj=>hfz j) hvs h1c h1v 3 3 1 cur.size (by simp[World.shape?,hrow]) (by simp[World.shape?,hgr]) aa (by simp[World.frozen?,hrow]) (by simp[World.frozen?,hrow])).mono ?_;rintro e w'⟨rfl,rfl⟩;refine⟨_,rfl,?_,fun q hq=>?_,?_⟩;·
     have hdl:((l.map bM).drop i).length=l.length-i:=ay;have hs1:∀j,j<((l.map bM).drop i).length→(w.drew.cell? ⟨g,0+(i+1)+j,none⟩).isSome=true:=fun j hj=>by have:=hsome (i+1+j) aa;simpa using this
     have hout:∀p,(w.drew.setCells g (0+(i+1)) ((l.map bM).drop i)).cell? ⟨g,p,none⟩=if p<i+1∨i+1+(l.length-i)≤p then w.cell? ⟨g,p,none⟩else some ((l.map bM)[p-1]?.getD undef):=fun p=>by
      split;·rename_i hp;rw[World.cell?_setCells_out _ _ _ _ _ (fun _ _=>by simp only[hdl];omega)];rfl
      ·rename_i hp;have:=World.cell?_setCells_in g ((l.map bM).drop i) (0+(i+1)) w.drew hs1 (p-(i+1)) aa;rw[show 0+(i+1)+(p-(i+1))=p by omega]at this;rw[this,List.getElem_drop];congr 1;rw[List.getElem?_eq_getElem (by rw[hlen];omega)];simp only[Option.getD_some];congr 1;omega
     have:=oU (W:=(w.drew.setCells g (0+(i+1)) ((l.map bM).drop i)).setCells g (0+i) [bM who]) (g:=g) (o:=0) (cap:=cap) (L:=iI l i who) (Nat.lt_of_lt_of_le hgl (Nat.le_trans (fQ g ((l.map bM).drop i) (0+(i+1)) w.drew) (fQ _ _ _ _))) (by rw[eY _ hi];exact hr) hm (fun j x hx=>by
      have hjl:=(List.getElem?_eq_some_iff.1 hx).1;rw[eY _ hi]at hjl;rw[show(0+j)=j from Nat.zero_add j];rcases Nat.lt_trichotomy j i with hj|hj|hj;·rw[yB hi hj]at hx;rw[World.cell?_setCells_out _ _ _ _ _ (fun _ _=>.inl lx),hout,if_pos (.inl aa)];have:=lG hS hx;simpa using this
      ·subst hj;rw[yz hi]at hx;cases hx;have:=World.cell?_setCells_in g [bM who] (0+j) (w.drew.setCells g (0+(j+1)) ((l.map bM).drop j)) (fun k hk=>by
        have hk0:k=0:=by simpa using hk
        subst hk0;rw[hout,if_pos (.inl aa)];have:=hsome j aa;simpa using this) 0 ay;simpa using this
      ·rw[yA hi hj]at hx;rw[World.cell?_setCells_out _ _ _ _ _ (fun _ _=>.inr aF),hout,if_neg aa];simp[hx]);rw[eY _ hi]at this;exact this
    ·simp only[Value.ownBlock,Option.some.injEq]at hq;omega
    ·exact below_setCells hg _ _ _ (below_setCells hg _ _ _ hbw)
  ·by_cases hil:i=l.length;·
    subst hil;refine(Any2.slices_Insert_int_end_grow oq (some ⟨g,0,none⟩) l.length cap vb 0 1 1 (l.map bM) [bM who] w aa hc aa aa hlen rfl (fun h=>ly) (fun a ha j v hj=>by cases ha;have:=hcs j v hj;simpa[cF]using this) hvs h1v).mono ?_;rintro e w'⟨rfl,rfl⟩;refine⟨_,rfl,?_,fun q hq=>?_,?_⟩;·have:=ve (W:=w.drew) (L:=l++[who]) (Zx:=Builtin.zeroCells (Value.int .i64 0).cells (grownCap w (l.length+1) cap 3-(l.length+1))) (cap:=grownCap w (l.length+1) cap 3) (by simpa using grownCap_ge _ _ _ _) (grownCap_le_maxLen _ _ _ _ fZ);rw[uV];have e3:Oj.t 3=3:=rfl;simp only[e3];simpa using this
    ·simp only[Value.ownBlock,Option.some.injEq]at hq;omega
    ·exact hbw.alloc hB _
   ·have hin:i<l.length:=aa;have e3:Oj.t 3=3:=rfl;refine(Any2.slices_Insert_int_grow oq g 0 l.length cap i vb 0 1 1 (l.map bM) [bM who] w hin aa hc aa aa hlen rfl hcs hvs h1c h1v).mono ?_;rintro e w'⟨rfl,rfl⟩;simp only[e3];generalize hG:grownCap w (l.length+1) cap 3=Gx;have hG1:l.length+1≤Gx:=by rw[←hG];exact grownCap_ge _ _ _ _
    have hG2:Gx≤maxLen:=by rw[←hG];exact grownCap_le_maxLen _ _ _ _ fZ
    generalize hR:(((l.map bM).take i).toArray++Builtin.zeroCells (Value.int .i64 0).cells (l.length+1-i)++Builtin.zeroCells (Value.int .i64 0).cells (Gx-(l.length+1)):Array Value)=R;have hRs:l.length+1≤R.size:=by rw[←hR];simp[Builtin.zeroCells,Value.cells];omega
    have hRi:∀j,j<i→R[j]? =(l.map bM)[j]? :=fun j hj=>by rw[←hR,Array.getElem?_append_left (by simp[Builtin.zeroCells,Value.cells];omega),Array.getElem?_append_left aF];simp[List.getElem?_take,hj]
    have hW:∀p,(w.alloc (.cells R 3)).drew.cell? ⟨w.heap.size,p,none⟩=R[p]? :=fun p=>World.cell?_alloc_at (w:=w) R 3 w.heap.size p rfl;have hb1:Below B w (w.alloc (.cells R 3)).drew:=((Below.refl B w).alloc hB _).drew;refine⟨_,rfl,?_,fun q hq=>?_,?_⟩;·
     have hdl:((l.map bM).drop i).length=l.length-i:=ay;have hin1:∀j,j<[bM who].length→((w.alloc (.cells R 3)).drew.cell? ⟨w.heap.size,i+j,none⟩).isSome=true:=fun j hj=>by rw[hW];have hj0:j=0:=lx;subst hj0;simp;omega
     have hout:∀p,(((w.alloc (.cells R 3)).drew.setCells w.heap.size i [bM who]).drew).cell? ⟨w.heap.size,p,none⟩=if p=i then some (bM who)else R[p]? :=fun p=>by
      show((w.alloc (.cells R 3)).drew.setCells w.heap.size i [bM who]).cell? ⟨w.heap.size,p,none⟩=_;split;·rename_i hp;subst hp;have:=World.cell?_setCells_in w.heap.size [bM who] p _ hin1 0 ay;simpa using this
      ·rename_i hp;rw[World.cell?_setCells_out _ _ _ _ _ (fun _ _=>aF),hW]
     have hsz:w.heap.size<((((w.alloc (.cells R 3)).drew.setCells w.heap.size i [bM who]).drew).setCells w.heap.size (i+1) ((l.map bM).drop i)).heap.size:=by refine Nat.lt_of_lt_of_le ?_ (fQ _ _ _ _);show w.heap.size<((w.alloc (.cells R 3)).drew.setCells w.heap.size i [bM who]).heap.size;refine Nat.lt_of_lt_of_le ?_ (fQ _ _ _ _);show w.heap.size<(w.alloc (.cells R 3)).heap.size;simp
     have:=oU (W:=(((w.alloc (.cells R 3)).drew.setCells w.heap.size i [bM who]).drew).setCells w.heap.size (i+1) ((l.map bM).drop i)) (g:=w.heap.size) (o:=0) (cap:=Gx) (L:=iI l i who) hsz (by rw[eY _ hi];exact hG1) hG2 (fun j x hx=>by
      have hjl:=(List.getElem?_eq_some_iff.1 hx).1;rw[eY _ hi]at hjl;rw[show(0+j)=j from Nat.zero_add j];rcases Nat.lt_trichotomy j i with hj|hj|hj;·rw[yB hi hj]at hx;rw[World.cell?_setCells_out _ _ _ _ _ (fun _ _=>.inl aF),hout,if_neg aa,hRi j hj];simp[hx]
      ·subst hj;rw[yz hi]at hx;cases hx;rw[World.cell?_setCells_out _ _ _ _ _ (fun _ _=>.inl ay),hout,if_pos rfl]
      ·rw[yA hi hj]at hx;have:=World.cell?_setCells_in w.heap.size ((l.map bM).drop i) (i+1) (((w.alloc (.cells R 3)).drew.setCells w.heap.size i [bM who]).drew) (fun k hk=>by rw[hout,if_neg aa];simp;omega) (j-(i+1)) aa;rw[show i+1+(j-(i+1))=j by omega]at this;rw[this,List.getElem_drop];have hj1:j-1<l.length:=(List.getElem?_eq_some_iff.1 hx).1;rw[List.getElem?_eq_getElem hj1]at hx;cases hx;simp only[List.getElem_map];congr 3;omega);rw[eY _ hi]at this;exact this
    ·simp only[Value.ownBlock,Option.some.injEq]at hq;omega
    ·exact below_setCells hB _ _ _ (below_setCells hB _ _ _ hb1).drew
end
section
open Go.RowKit Go.Shelf Go.Lib Go.Sort
attribute[local go_sem↓]ew dR
attribute[local go_sem]fy eZ dC bq
theorem Cg:∀(l:List Nat)(x:Nat),l.Pairwise (·≤·)→(∀a∈l.take (l.countP (·<x)),a<x)∧(∀a∈l.drop (l.countP (·<x)),x≤a)
 |[],x,_=>⟨ay,ay⟩
 |b::l,x,h=>by
  obtain⟨h1,h2⟩:=List.pairwise_cons.1 h;by_cases hb:b<x;·
   have ih:=Cg l x h2;have e:(b::l).countP (·<x)=l.countP (·<x)+1:=by simp[List.countP_cons,hb]
   rw[e,List.take_succ_cons,List.drop_succ_cons];refine⟨fun a ha=>?_,ih.2⟩;rcases List.mem_cons.1 ha with rfl|ha;·exact hb
   ·exact ih.1 a ha
  ·have e:(b::l).countP (·<x)=0:=by
    rw[List.countP_eq_zero];intro a ha;rcases List.mem_cons.1 ha with rfl|ha;·simpa using hb
    ·have:=h1 a ha;simp;omega
   rw[e];refine⟨ay,fun a ha=>?_⟩;rw[List.drop_zero]at ha;rcases List.mem_cons.1 ha with rfl|ha;·omega
   ·have:=h1 a ha;omega
theorem Br(l:List Nat)(x:Nat)(h:l.Pairwise (·≤·)):(iI l (l.countP (·<x)) x).Pairwise (·≤·):=by
 obtain⟨h1,h2⟩:=Cg l x h;unfold iI;rw[List.pairwise_append,List.pairwise_cons];refine⟨h.sublist (List.take_sublist _ _),⟨h2,h.sublist (List.drop_sublist _ _)⟩,fun a ha b hb=>?_⟩;have:=h1 a ha;rcases List.mem_cons.1 hb with rfl|hb;·omega
 ·have:=h2 b hb;omega
theorem Bn(l:List Nat)(who:Nat)(hs:l.Pairwise (·≤·))(hl:l.length≤90000)(v:Value)(w:World)(h:Sl w v 1 (l.map qE)):Calls Tryz.prog 85 #[v,who] w fun e w'=>∃(l':List Nat)(v':Value),e= .returned v'∧Sl w' v' 1 (l'.map qE)∧l'.Pairwise (·≤·)∧l'.length≤l.length+1∧(∀q,v'.ownBlock=some q→v.ownBlock=some q∨w.heap.size≤q)∧Below w.heap.size w w':=by
 have Hx:=Lib.hid h;have HS:=Lib.hid (Bl l who hs aa v w h);have HC:=Lib.hid (fun(W:World)(b:Below w.heap.size w W)=>B9 v _ W (Hx.out.below b) aF);obtain⟨a,cap,rfl,-⟩:=h;simp only[List.length_map]at*;cases hc:l.contains who with
  |true=>rw[hc]at HS;go_enter Tryz.func85,Tryz.ntmps85;go_wp2_with(go_at_call 129;refine(HS.out).mono ?_;rintro e w1⟨rfl,hb⟩;have hk:=aw.mk hb;have xx:=cZ hk.out;(try have zz:=zs w.heap.size w1.heap.size);clear hb);go_ret;exact⟨l,_,rfl,Hx.out.below hk.out,hs,Nat.le_succ _,fun q hq=>.inl hq,hk.out⟩
  |false=>rw[hc]at HS;have hil:l.countP (·<who)≤l.length:=List.countP_le_length;have hsr:=Br l who hs;generalize l.countP (·<who)=k at*;go_enter Tryz.func85,Tryz.ntmps85;go_wp2_with(first|(go_at_call 129;refine(HS.out).mono ?_;rintro e w1⟨rfl,hb⟩;have hk:=aw.mk hb;have xx:=cZ hk.out;(try have zz:=zs w.heap.size w1.heap.size);clear hb)|(go_at_call 87;refine(HC.out _ hk.out).mono ?_;rintro e w2⟨v2,rfl,ho,hb⟩;have hk2:=aw.mk hb;have HO2:=Lib.hid ho;clear ho hb));have hO3:=HO2.out.below ((Below.refl w2.heap.size w2).alloc (Nat.le_refl _) (.cells #[who] 3));refine(A9 l k who w1.heap.size w2.heap.size hil aa v2 (w2.alloc (.cells #[who] 3)) hO3 ay (fun e=>by have:=(HO2.out.base e).2;omega) (show _=some (.cells #[bM who] 3 (0,0))from(MapKept.heap_alloc w2 _).1) (by have:=hk2.out.size;simp;omega)).mono ?_;rintro e w3⟨v3,rfl,hs3,hq3,hb3⟩;go_wp2;go_ret;exact⟨_,v3,rfl,hs3,hsr,by rw[eY _ hil];exact Nat.le_refl _,fun q hq=>.inr (Nat.le_trans hk.out.size (hq3 q hq)),hk.out.trans ((hk2.out.alloc hk2.out.size _|>.trans hb3).mono hk.out.size)⟩
theorem Cw(who x:Nat)(B:Nat)(W:World)(hc:W.cell? ⟨B,0,none⟩=some (bM who)):FnGives Tryz.prog 88 #[H B 0] #[bM x] (.bool (x==who)) W:=by unfold bM at*;show Calls Tryz.prog 88 #[x,H B 0] W _;go_enter Tryz.func88,Tryz.ntmps88;go_wp2;go_ret;refine⟨?_,0,rfl⟩;congr 1;show Value.bool ((x:Int)==(who:Int))=_;congr 1;rw[Bool.eq_iff_iff];simp only[beq_iff_eq];omega
theorem EI:OneCell bM:=fun x=>rfl
theorem GC:∀args w,(callFunc 88 args).run Tryz.prog w= .ok (.enter 88 args) w:=enters_of Tryz.func88 af rfl
theorem A3{W:World}{g cap:Nat}{l:List Nat}(h:Sl W (G g l.length cap) 1 (l.map qE))(hf:∀j,W.frozen? ⟨g,j,none⟩=false):Holds bM W g 0 l.toArray:=fun j hj=>by have hj':j<l.length:=lx;refine⟨?_,hf _⟩;rw[lG h (List.getElem?_eq_getElem hj')];simp[hj']
theorem AN(l:List Nat)(who bw B:Nat)(hs:l.Pairwise (·≤·))(hl:l.length≤90000)(v:Value)(w:World)(h:aV w B 3 1 v (l.map qE))(hbw:bw<B)(hB:B≤w.heap.size)(hcell:w.cell? ⟨bw,0,none⟩=some (bM who)):Calls Tryz.prog 86 #[v,.func (.func 88) #[] #[H bw 0]] w fun e w'=>∃(l':List Nat)(v':Value),e= .returned v'∧Sl w' v' 1 (l'.map qE)∧l'.Pairwise (·≤·)∧l'.length≤l.length∧(∀q,v'.ownBlock=some q→B≤q)∧Below B w w':=by
 have hS:=h.sl;have hb:=fun q(hq:v.ownBlock=some q)=>h.base hq;obtain⟨⟨k1,k2⟩,k3⟩:=h;rcases k2 with⟨rfl,k2⟩|⟨g,cap,cur,rfl,hg,hgr,hc,hm,hz,ht⟩;·
  have:l=[]:=by simpa using k2
  subst this;go_enter Tryz.func86,Tryz.ntmps86;go_wp2_with(go_at_call 131;refine(AnyE.slices_IndexFunc_empty Ky none 0 _ _).mono ?_;rintro e w1⟨rfl,rfl⟩);go_ret;exact⟨[],_,rfl,Sl.nil _ _,List.Pairwise.nil,Nat.le_refl _,(fun q hq=>by simp[Value.ownBlock]at hq),Below.refl _ _⟩
 ·have hgl:g<w.heap.size:=(Array.getElem?_eq_some_iff.1 hgr).1;simp only[List.length_map]at hc hS⊢;have hH:=A3 hS (fun j=>by simp[World.frozen?,hgr]);have hne:bw≠g:=aa;refine(AnyE.slices_DeleteFunc Kx bM EI (fun x=>x==who) 88 #[H bw 0] GC 0 (fun w=>af) g 0 cap l.toArray w (fun W x hb=>Cw who x bw W ((hb.cell (p:=⟨bw,0,none⟩) (by show bw<_;omega)).trans hcell)) (fun n os dk x _=>Cw who x bw _ (by unfold sortWorld;rw[cell?_grow _ _ _ (by show bw<(putRow _ _ _ _ _).heap.size;rw[size_putRow];show bw<w.heap.size;omega),cell?_putRow_other _ _ g 0 _ _ (Or.inl hne)];exact hcell)) hH aF uH).mono ?_;rintro e w'⟨rfl,q,rfl⟩;generalize hF:(l.toArray.toList.filter fun x=> !(x==who))=Fx;have hFl:Fx.length≤l.length:=by rw[←hF];simpa using List.length_filter_le _ l
  have hFs:Fx.Pairwise (·≤·):=by rw[←hF];exact(show l.toArray.toList.Pairwise (·≤·)from hs).sublist List.filter_sublist
  have hsz:(Fx++List.replicate (l.toArray.size-Fx.length) 0).toArray.size=l.toArray.size:=aF;refine⟨Fx,_,rfl,?_,hFs,hFl,fun q hq=>?_,?_⟩;·refine oU (by rw[size_putRow];exact hgl) aa hm fun j x hx=>?_;have hj:=(List.getElem?_eq_some_iff.1 hx).1;rw[cell?_putRow bM (Sort.ahead w q) g 0 l.toArray _ (holds_ahead _ _ _ _ _ _ hH) hsz j (by rw[hsz];simp;omega)];congr 2;rw[getElem!_pos _ j (by rw[hsz];simp;omega)];have:=(List.getElem?_eq_some_iff.1 hx).2;simp[List.getElem_append_left hj,this]
  ·simp only[Value.ownBlock,Option.some.injEq]at hq;omega
  ·refine⟨rfl,rfl,rfl,by rw[size_putRow];exact Nat.le_refl _,fun k hk=>?_⟩;have hkg:g≠k:=aa;unfold putRow mapBlock;simp[Array.getElem?_modify,hkg]
end
end Go.Proofs.YtnncjbkepakgpaaGreat
