/- ROWS AND RANGES OF CELLS: a struct is loaded, and stored, whole, its cells under one name. A REGION THAT DRAWS ITS ORDER, WALKED IN ONE ORDER THAT IS LAID AHEAD: first some operations that yield a value in whatever world; then the others, one by one, each the only one that may come up. A REGION THAT -/
import Derived.Test.YtnncjbkepakgpaaGreatProg
import Derived.BigQuiet
import Derived.Laws.Rows
import Derived.Deep.Slices
import Derived.Deep.RegionHeld3
import Derived.Deep.DeepCutAuto
import Derived.Deep.OwnRows
import Derived.Deep.LoopGhost
import Derived.MapKept
import Derived.Test.YtnncjbkepakgpaaGreatA01
import Derived.Deep.Quiet
namespace Go.Proofs.YtnncjbkepakgpaaGreat
open Go.RowKit Qv
set_option linter.unusedVariables false
set_option linter.unusedSimpArgs false
set_option maxRecDepth 100000
def aK(W:World)(g:Nat)(t:TypeId)(n:Nat):Bool:=match W.heap[g]? with
 |some (.cells cs u fr)=>decide (u=t)&&decide (fr=(0,0))&&decide (cs.size=n)
 |_=>false
def aH(W:World)(g:Nat):Array Value:=match W.heap[g]? with
 |some (.cells cs _ _)=>cs
 |_=>#[]
theorem bK{W:World}{g n:Nat}{t:TypeId}(h:aK W g t n=true):W.heap[g]? =some (.cells (aH W g) t (0,0))∧(aH W g).size=n:=by
 unfold aK at h;unfold aH;split at h;·rename_i cs u fr e;simp only[Bool.and_eq_true,decide_eq_true_eq]at h;obtain⟨⟨rfl,rfl⟩,rfl⟩:=h;rw[e];exact⟨rfl,rfl⟩
 ·cases h
theorem wV{W:World}{g n:Nat}{t:TypeId}{C:Array Value}(h:W.heap[g]? =some (.cells C t (0,0)))(hn:C.size=n):aK W g t n=true∧aH W g=C:=by unfold aK aH;rw[h];simp[hn]
theorem bd{W:World}{g n:Nat}{t:TypeId}(h:aK W g t n=true):g<W.heap.size:=by
 rcases Nat.lt_or_ge g W.heap.size with h'|h';·exact h'
 ·have:=(bK h).1;rw[Array.getElem?_eq_none h']at this;cases this
theorem EY{W W':World}{g n:Nat}{t:TypeId}(hb:Below W.heap.size W W')(h:aK W g t n=true):aK W' g t n=true∧aH W' g=aH W g:=by have e:=hb.block g (bd h);unfold aK aH at*;rw[e];exact⟨h,rfl⟩
theorem Dn(w:World)(C:Array Value)(t:TypeId){n:Nat}(hn:C.size=n):aK (w.alloc (.cells C t)) w.heap.size t n=true∧aH (w.alloc (.cells C t)) w.heap.size=C:=wV (MapKept.heap_alloc w _).1 hn
theorem jP(w:World)(C:Array Value)(t:TypeId)(g n:Nat)(hg:g=w.heap.size)(hn:C.size=n):aK (w.alloc (.cells C t)) g t n=true:=by subst hg;exact(Dn w C t hn).1
theorem iq(w:World)(C:Array Value)(t:TypeId)(g:Nat)(hg:g=w.heap.size):aH (w.alloc (.cells C t)) g=C:=by subst hg;exact(Dn w C t rfl).2
theorem iJ(w:World)(o:Obj)(t:TypeId)(g n:Nat)(hg:g<w.heap.size):aK (w.alloc o) g t n=aK w g t n:=by unfold aK;rw[Below.heap_alloc w o g hg]
theorem gJ(w:World)(o:Obj)(g:Nat)(hg:g<w.heap.size):aH (w.alloc o) g=aH w g:=by unfold aH;rw[Below.heap_alloc w o g hg]
theorem kt(w:World)(t:TypeId)(g n:Nat):aK w.drew g t n=aK w g t n:=rfl
theorem kF(w:World)(g:Nat):aH w.drew g=aH w g:=rfl
theorem ip{W:World}{g:Nat}{t:TypeId}{n:Nat}{C:Array Value}(h:aK W g t n=true)(hn:C.size=n):aK (W.setRow g C) g t n=true:=(wV (setRow_heap W g _ C t (0,0) (bK h).1) hn).1
theorem j3{W:World}{g:Nat}{t:TypeId}{n:Nat}{C:Array Value}(h:aK W g t n=true):aH (W.setRow g C) g=C:=(wV (setRow_heap W g _ C t (0,0) (bK h).1) rfl).2
theorem ai{B:Nat}{a w:World}(h:Below B a w){g:Nat}(hg:B≤g)(C:Array Value):Below B a (w.setRow g C):=by
 refine⟨h.os,h.tape,h.output,?_,fun k hk=>?_⟩;·have:=h.size;simpa[World.setRow]using this
 ·rw[←h.block k hk];simp only[World.setRow,Array.getElem?_modify];rw[if_neg aa]
theorem nC(w:World)(old C:Array Value)(t:TypeId)(g:Nat)(hg:g=w.heap.size):(w.alloc (.cells old t)).setRow g C=w.alloc (.cells C t):=by
 subst hg;have e:(w.heap.push (.cells old t (0,0))).modify w.heap.size (fun| .cells _ elem frozen=>.cells C elem frozen|o=>o)=w.heap.push (.cells C t (0,0)):=by
  apply Array.ext_getElem?;intro i;simp only[Array.getElem?_modify,Array.getElem?_push];by_cases h:w.heap.size=i;·subst h;simp
  ·simp[h,Ne.symm h]
 exact congrArg (fun h=>({w with heap:=h}:World)) e
theorem lS(w:World)(o:Obj)(g:Nat)(C:Array Value)(hg:g<w.heap.size):(w.alloc o).setRow g C=(w.setRow g C).alloc o:=by
 have e:∀(f:Obj→Obj),(w.heap.push o).modify g f=(w.heap.modify g f).push o:=fun f=>by
  apply Array.ext_getElem?;intro i;simp only[Array.getElem?_modify,Array.getElem?_push,Array.size_modify];by_cases h:w.heap.size=i;·subst h;rw[if_neg aa];simp
  ·simp only[show¬i=w.heap.size from fun e=>h e.symm,if_false]
 exact congrArg (fun h=>({w with heap:=h}:World)) (e _)
structure ax(T:Nat)(w w':World):Prop where
 os:w'.os=w.os
 tape:w'.tape=w.tape
 output:w'.output=w.output
 size:w.heap.size≤w'.heap.size
 block:∀k,k<w.heap.size→k≠T→w'.heap[k]? =w.heap[k]?
theorem ax.refl(T:Nat)(w:World):ax T w w:=⟨rfl,rfl,rfl,Nat.le_refl _,fun _ _ _=>rfl⟩
theorem ax.trans{T:Nat}{a b c:World}(h:ax T a b)(k:ax T b c):ax T a c:=⟨k.os.trans h.os,k.tape.trans h.tape,k.output.trans h.output,Nat.le_trans h.size k.size,fun i hi hT=>(k.block i (Nat.lt_of_lt_of_le hi h.size) hT).trans (h.block i hi hT)⟩
theorem ax.of_below{T:Nat}{w w':World}(h:Below w.heap.size w w'):ax T w w':=⟨h.os,h.tape,h.output,h.size,fun k hk _=>h.block k hk⟩
theorem ax.below{T B:Nat}{w w':World}(h:ax T w w')(hB:B≤T)(hw:B≤w.heap.size):Below B w w':=⟨h.os,h.tape,h.output,h.size,fun k hk=>h.block k aa aa⟩
theorem ax.alloc{T:Nat}{w w':World}(h:ax T w w')(o:Obj):ax T w (w'.alloc o):=h.trans (.of_below ((Below.refl _ _).alloc (Nat.le_refl _) o))
theorem ax.set{T:Nat}{w w':World}(h:ax T w w')(i:Nat)(v:Value):ax T w (w'.setCell ⟨T,i,none⟩ v):=h.trans ⟨rfl,rfl,rfl,by simp[World.setCell],fun k _ hk=>Below.heap_setCell w' ⟨T,i,none⟩ v k hk⟩
theorem ax.drew{T:Nat}{w w':World}(h:ax T w w'):ax T w w'.drew:=⟨h.os,h.tape,h.output,h.size,h.block⟩
theorem ax.cell{T:Nat}{w w':World}(h:ax T w w'){p:Addr}(hp:p.block<w.heap.size)(hT:p.block≠T):w'.cell? p=w.cell? p:=World.cell?_of_block (w:=w) (h.block _ hp hT)
def aO(W:World)(p:Addr)(n:Nat):Array Value:=((List.range n).map fun k=>(W.cell? (p.add k)).getD undef).toArray
def aR(W:World)(p:Addr)(n:Nat):Bool:=(List.range n).all fun k=>(W.cell? (p.add k)).isSome
theorem iV{W:World}{p:Addr}{n:Nat}(h:aR W p n=true){k:Nat}(hk:k<n):W.cell? (p.add k)=(aO W p n)[k]? :=by have h':=List.all_eq_true.1 h k (List.mem_range.2 hk);obtain⟨v,hv⟩:=Option.isSome_iff_exists.1 h';simp[aO,hk,hv]
theorem sY(W:World)(p:Addr)(n:Nat):(aO W p n).size=n:=by simp[aO]
theorem fO{W:World}{p:Addr}{n:Nat}{cs:List Value}(hn:cs.length=n)(h:∀k v,cs[k]? =some v→W.cell? (p.add k)=some v):aR W p n=true∧aO W p n=cs.toArray:=by
 have g:∀k,k<n→W.cell? (p.add k)=cs[k]? :=fun k hk=>by have hk':k<cs.length:=aa;rw[List.getElem?_eq_getElem hk',h k _ (List.getElem?_eq_getElem hk')]
 refine⟨List.all_eq_true.2 fun k hk=>?_,?_⟩;·have hk':=List.mem_range.1 hk;rw[g k hk',List.getElem?_eq_getElem aa];rfl
 ·apply Array.ext_getElem?;intro k;by_cases hk:k<n;·have hk':k<cs.length:=aa;simp[aO,hk,g k hk,List.getElem?_eq_getElem hk']
  ·have:cs.length≤k:=aa;simp[aO,hk,List.getElem?_eq_none this]
theorem DR(b:Addr)(m:Nat):(b.add m).block=b.block:=by unfold Addr.add;split<;>rfl
theorem bS{W W':World}{p:Addr}{n:Nat}(h:W'.heap[p.block]? =W.heap[p.block]?):aR W' p n=aR W p n∧aO W' p n=aO W p n:=by
 have g:∀k,W'.cell? (p.add k)=W.cell? (p.add k):=fun k=>World.cell?_of_block (w:=W) (by rw[DR];exact h);constructor;·simp[aR,g]
 ·simp[aO,g]
theorem ik(w:World)(o:Obj)(p:Addr)(n:Nat)(h:p.block<w.heap.size):aR (w.alloc o) p n=aR w p n:=(bS (Below.heap_alloc w o p.block h)).1
theorem im(w:World)(o:Obj)(p:Addr)(n:Nat)(h:p.block<w.heap.size):aO (w.alloc o) p n=aO w p n:=(bS (Below.heap_alloc w o p.block h)).2
theorem vz(w:World)(C:Array Value)(t:TypeId):aR (w.alloc (.cells C t)) ⟨w.heap.size,0,none⟩ C.size=true∧aO (w.alloc (.cells C t)) ⟨w.heap.size,0,none⟩ C.size=C:=by have h:=fO (W:=w.alloc (.cells C t)) (p:=⟨w.heap.size,0,none⟩) (cs:=C.toList) (n:=C.size) ay (fun k v hk=>by have e:(⟨w.heap.size,0,none⟩:Addr).add k=⟨w.heap.size,k,none⟩:=BT;rw[e,World.cell?_alloc_new];simpa using hk);simpa using h
theorem pY(w:World)(C:Array Value)(t:TypeId)(g n:Nat)(hg:g=w.heap.size)(hn:C.size=n):aR (w.alloc (.cells C t)) ⟨g,0,none⟩ n=true:=by subst hg hn;exact(vz w C t).1
theorem qa(w:World)(C:Array Value)(t:TypeId)(g n:Nat)(hg:g=w.heap.size)(hn:C.size=n):aO (w.alloc (.cells C t)) ⟨g,0,none⟩ n=C:=by subst hg hn;exact(vz w C t).2
theorem ij(w:World)(p:Addr)(n:Nat):aR w.drew p n=aR w p n:=rfl
theorem il(w:World)(p:Addr)(n:Nat):aO w.drew p n=aO w p n:=rfl
theorem JK{W:World}{p:Addr}{v:Value}(h:W.cell? p=some v):p.block<W.heap.size:=by
 rcases Nat.lt_or_ge p.block W.heap.size with h'|h';·exact h'
 ·unfold World.cell? at h;simp[Array.getElem?_eq_none h']at h
theorem Be{T:TypeId}{n:Nat}{d:TypeDesc}(hi:(Tryz.prog.info? T).map (·.size)=some n)(hu:Tryz.prog.underlying T=some d)(hd:(match d with| .struct _| .array _ _=>true|_=>false)=true){W:World}{p:Addr}(h:aR W p n=true):(loadVar T p).run Tryz.prog W= .ok (.agg (aO W p n)) W:=by
 have hl:(loadCells p (aO W p n).toList.length).run Tryz.prog W= .ok (aO W p n).toList.toArray W:=run_loadCells_list (P:=Tryz.prog) W p (aO W p n).toList (fun j v hv=>by
  have hj:j<n:=by have:=(List.getElem?_eq_some_iff.1 hv).1;simpa[aO]using this
  rw[iV h hj];simpa using hv);simp only[Array.length_toList,Array.toArray_toList,sY]at hl;cases hq:Tryz.prog.info? T with
  |none=>rw[hq]at hi;cases hi
  |some i=>
   have hs:i.size=n:=by rw[hq]at hi;simpa using hi
   have hagg:(isAgg T).run Tryz.prog W= .ok true W:=by unfold isAgg;rw[Sem.run_bind,run_underlying hu W];cases d<;>simp_all
   simp[loadVar,Sem.run_bind,hagg,sizeOf,typeInfo,hq,hs,hl]
def lT(T:TypeId)(v:Value):Sem Next:=do pure (.value (←Instr.loadAt T v))
def sT(T:TypeId)(a v:Value):Sem Next:=do Instr.storeAt T a v;pure .skip
abbrev lj(T:TypeId):Prop:=∀(ρ:Operand→Value)(dst:Option Tmp)(x:Operand)(ty:TypeId)(pos:String)(after:Array Edge)(guard:Option (Nat×Bool)),execOp ρ {dst,op:=.load T x,type:=ty,pos,after,guard}=lT T (ρ x)
abbrev ll(T:TypeId):Prop:=∀(ρ:Operand→Value)(dst:Option Tmp)(x y:Operand)(ty:TypeId)(pos:String)(after:Array Edge)(guard:Option (Nat×Bool)),execOp ρ {dst,op:=.store T x y,type:=ty,pos,after,guard}=sT T (ρ x) (ρ y)
abbrev lh(T:TypeId)(n:Nat):Prop:=∀{W:World}{p:Addr},aR W p n=true→(lT T (.pointer (some p))).run Tryz.prog W= .ok (.value (.agg (aO W p n))) W
theorem l6{T:TypeId}{n:Nat}{d:TypeDesc}(hi:(Tryz.prog.info? T).map (·.size)=some n)(hu:Tryz.prog.underlying T=some d)(hd:(match d with| .struct _| .array _ _=>true|_=>false)=true):lh T n:=fun h=>by simp only[lT,Instr.loadAt,Instr.sureAddr,Sem.run_bind,Sem.run_pure,Result.andThen_ok,Be hi hu hd h]
theorem ky(k:IntKind)(n:Int):(Value.int k n).oneCell'=true:=rfl
theorem lJ(b:Bool):(Value.bool b).oneCell'=true:=rfl
theorem jW(a:Option Addr)(n c:Nat):(Value.slice a n c).oneCell'=true:=rfl
theorem qQ(a:Option Addr):(Value.pointer a).oneCell'=true:=rfl
def kW:List Value→Bool
 |[]=>true
 |v::l=>v.oneCell'&&kW l
def bB(C:Array Value):Bool:=kW C.toList
theorem bW(l:List Value):bB l.toArray=kW l:=rfl
theorem bF:kW []=true:=rfl
theorem bi(v:Value)(l:List Value):kW (v::l)=(v.oneCell'&&kW l):=rfl
theorem iO{C:Array Value}(h:bB C=true):C.all (·.oneCell')=true:=by
 obtain⟨l⟩:=C;have:∀l:List Value,kW l=true→l.all (·.oneCell')=true:=fun l=>by
  induction l with
   |nil=>intro _;rfl
   |cons v l ih=>intro h;simp only[kW,Bool.and_eq_true]at h;simp only[List.all_cons,Bool.and_eq_true];exact⟨h.1,ih h.2⟩
 have h':=this l h;simpa using h'
theorem A7:(Tryz.prog.info? 29).map (·.size)=some 16:=af
theorem dt:lj 29:=fun _ _ _ _ _ _ _=>rfl
theorem dT:lh 29 16:=l6 A7 Tryz.underlying29 rfl
theorem db:ll 29:=fun _ _ _ _ _ _ _ _=>rfl
theorem G8:(Tryz.prog.info? 41).map (·.size)=some 12:=af
theorem dM:lj 41:=fun _ _ _ _ _ _ _=>rfl
theorem eA:lh 41 12:=l6 G8 Tryz.underlying41 rfl
theorem dv:ll 41:=fun _ _ _ _ _ _ _ _=>rfl
theorem fi:(Tryz.prog.info? 64).map (·.size)=some 8:=af
theorem dN:lj 64:=fun _ _ _ _ _ _ _=>rfl
theorem eB:lh 64 8:=l6 fi Tryz.underlying64 rfl
theorem dw:ll 64:=fun _ _ _ _ _ _ _ _=>rfl
theorem sI:(Tryz.prog.info? 75).map (·.size)=some 10:=af
theorem aZ:lj 75:=fun _ _ _ _ _ _ _=>rfl
theorem lQ:lh 75 10:=l6 sI Tryz.underlying75 rfl
theorem aW:ll 75:=fun _ _ _ _ _ _ _ _=>rfl
theorem cy:(Tryz.prog.info? 103).map (·.size)=some 13:=af
theorem bZ:lj 103:=fun _ _ _ _ _ _ _=>rfl
theorem zv{W:World}{g:Nat}(h:aK W g 103 13=true):(lT 103 (H g 0)).run Tryz.prog W= .ok (.value (.agg (aH W g))) W:=by simp only[lT,Instr.loadAt,Instr.sureAddr,Sem.run_bind,Sem.run_pure,Result.andThen_ok,run_loadVar_row W g 103 103 _ (0,0) _ (bK h).1 Tryz.underlying103 rfl (by rw[(bK h).2];exact cy)]
theorem cz:lh 103 13:=l6 cy Tryz.underlying103 rfl
theorem bO:ll 103:=fun _ _ _ _ _ _ _ _=>rfl
theorem oP{W:World}{g:Nat}{C:Array Value}(h:aK W g 103 13=true)(hn:C.size=13)(h1:bB C=true):(sT 103 (H g 0) (.agg C)).run Tryz.prog W= .ok .skip (W.setRow g C):=by obtain⟨h2,h3⟩:=bK h;simp only[sT,Instr.storeAt,Instr.sureAddr,Sem.run_bind,Sem.run_pure,Result.andThen_ok,run_storeVar_row W g 103 103 _ C h2 (by rw[hn];exact cy) (by rw[h3,hn]) (iO h1)]
theorem fG:(Tryz.prog.info? 105).map (·.size)=some 21:=af
theorem dQ:lj 105:=fun _ _ _ _ _ _ _=>rfl
theorem qd{W:World}{g:Nat}(h:aK W g 105 21=true):(lT 105 (H g 0)).run Tryz.prog W= .ok (.value (.agg (aH W g))) W:=by simp only[lT,Instr.loadAt,Instr.sureAddr,Sem.run_bind,Sem.run_pure,Result.andThen_ok,run_loadVar_row W g 105 105 _ (0,0) _ (bK h).1 Tryz.underlying105 rfl (by rw[(bK h).2];exact fG)]
theorem ez:lh 105 21:=l6 fG Tryz.underlying105 rfl
theorem dA:ll 105:=fun _ _ _ _ _ _ _ _=>rfl
theorem kK{W:World}{g:Nat}{C:Array Value}(h:aK W g 105 21=true)(hn:C.size=21)(h1:bB C=true):(sT 105 (H g 0) (.agg C)).run Tryz.prog W= .ok .skip (W.setRow g C):=by obtain⟨h2,h3⟩:=bK h;simp only[sT,Instr.storeAt,Instr.sureAddr,Sem.run_bind,Sem.run_pure,Result.andThen_ok,run_storeVar_row W g 105 105 _ C h2 (by rw[hn];exact fG) (by rw[h3,hn]) (iO h1)]
theorem CJ:(Tryz.prog.info? 107).map (·.size)=some 37:=af
theorem ju:lj 107:=fun _ _ _ _ _ _ _=>rfl
theorem oN:lh 107 37:=l6 CJ Tryz.underlying107 rfl
theorem iB:ll 107:=fun _ _ _ _ _ _ _ _=>rfl
theorem kr:(Tryz.prog.info? 198).map (·.size)=some 31:=af
theorem mS:lj 198:=fun _ _ _ _ _ _ _=>rfl
theorem zw{W:World}{g:Nat}(h:aK W g 198 31=true):(lT 198 (H g 0)).run Tryz.prog W= .ok (.value (.agg (aH W g))) W:=by simp only[lT,Instr.loadAt,Instr.sureAddr,Sem.run_bind,Sem.run_pure,Result.andThen_ok,run_loadVar_row W g 198 198 _ (0,0) _ (bK h).1 Tryz.underlying198 rfl (by rw[(bK h).2];exact kr)]
theorem wY:lh 198 31:=l6 kr Tryz.underlying198 rfl
theorem lD:ll 198:=fun _ _ _ _ _ _ _ _=>rfl
theorem xj{W:World}{g:Nat}{C:Array Value}(h:aK W g 198 31=true)(hn:C.size=31)(h1:bB C=true):(sT 198 (H g 0) (.agg C)).run Tryz.prog W= .ok .skip (W.setRow g C):=by obtain⟨h2,h3⟩:=bK h;simp only[sT,Instr.storeAt,Instr.sureAddr,Sem.run_bind,Sem.run_pure,Result.andThen_ok,run_storeVar_row W g 198 198 _ C h2 (by rw[hn];exact kr) (by rw[h3,hn]) (iO h1)]
theorem CW:(Tryz.prog.info? 203).map (·.size)=some 28:=af
theorem da:lj 203:=fun _ _ _ _ _ _ _=>rfl
theorem dx:lh 203 28:=l6 CW Tryz.underlying203 rfl
theorem cJ:ll 203:=fun _ _ _ _ _ _ _ _=>rfl
theorem sH:(Tryz.prog.info? 62).map (·.size)=some 5:=af
theorem ii:lj 62:=fun _ _ _ _ _ _ _=>rfl
theorem qe:lh 62 5:=l6 sH Tryz.underlying62 rfl
theorem gK:ll 62:=fun _ _ _ _ _ _ _ _=>rfl
theorem ji:(Tryz.prog.info? 101).map (·.size)=some 3:=af
theorem bI:lj 101:=fun _ _ _ _ _ _ _=>rfl
theorem zu{W:World}{g:Nat}(h:aK W g 101 3=true):(lT 101 (H g 0)).run Tryz.prog W= .ok (.value (.agg (aH W g))) W:=by simp only[lT,Instr.loadAt,Instr.sureAddr,Sem.run_bind,Sem.run_pure,Result.andThen_ok,run_loadVar_row W g 101 101 _ (0,0) _ (bK h).1 Tryz.underlying101 rfl (by rw[(bK h).2];exact ji)]
theorem bT:lh 101 3:=l6 ji Tryz.underlying101 rfl
theorem bu:ll 101:=fun _ _ _ _ _ _ _ _=>rfl
theorem oO{W:World}{g:Nat}{C:Array Value}(h:aK W g 101 3=true)(hn:C.size=3)(h1:bB C=true):(sT 101 (H g 0) (.agg C)).run Tryz.prog W= .ok .skip (W.setRow g C):=by obtain⟨h2,h3⟩:=bK h;simp only[sT,Instr.storeAt,Instr.sureAddr,Sem.run_bind,Sem.run_pure,Result.andThen_ok,run_storeVar_row W g 101 101 _ C h2 (by rw[hn];exact ji) (by rw[h3,hn]) (iO h1)]
theorem pg:(Tryz.prog.info? 36).map (·.size)=some 4:=af
theorem bv:lj 36:=fun _ _ _ _ _ _ _=>rfl
theorem bN:lh 36 4:=l6 pg Tryz.underlying36 rfl
theorem bj:ll 36:=fun _ _ _ _ _ _ _ _=>rfl
theorem ph:(Tryz.prog.info? 51).map (·.size)=some 24:=af
theorem eX:lj 51:=fun _ _ _ _ _ _ _=>rfl
theorem jq:lh 51 24:=l6 ph Tryz.underlying51 rfl
theorem eF:ll 51:=fun _ _ _ _ _ _ _ _=>rfl
theorem dF:(Tryz.prog.info? 47).map (·.size)=some 6:=af
theorem ew:lj 47:=fun _ _ _ _ _ _ _=>rfl
theorem fy:lh 47 6:=l6 dF Tryz.underlying47 rfl
theorem dR:ll 47:=fun _ _ _ _ _ _ _ _=>rfl
theorem CY:(Tryz.prog.info? 279).map (·.size)=some 21:=af
theorem tT:lj 279:=fun _ _ _ _ _ _ _=>rfl
theorem zx{W:World}{g:Nat}(h:aK W g 279 21=true):(lT 279 (H g 0)).run Tryz.prog W= .ok (.value (.agg (aH W g))) W:=by simp only[lT,Instr.loadAt,Instr.sureAddr,Sem.run_bind,Sem.run_pure,Result.andThen_ok,run_loadVar_row W g 279 279 _ (0,0) _ (bK h).1 Tryz.underlying279 rfl (by rw[(bK h).2];exact CY)]
theorem rW:ll 279:=fun _ _ _ _ _ _ _ _=>rfl
theorem xk{W:World}{g:Nat}{C:Array Value}(h:aK W g 279 21=true)(hn:C.size=21)(h1:bB C=true):(sT 279 (H g 0) (.agg C)).run Tryz.prog W= .ok .skip (W.setRow g C):=by obtain⟨h2,h3⟩:=bK h;simp only[sT,Instr.storeAt,Instr.sureAddr,Sem.run_bind,Sem.run_pure,Result.andThen_ok,run_storeVar_row W g 279 279 _ C h2 (by rw[hn];exact CY) (by rw[h3,hn]) (iO h1)]
theorem CN:(Tryz.prog.info? 129).map (·.size)=some 2:=af
theorem fe:lj 129:=fun _ _ _ _ _ _ _=>rfl
theorem fH:lh 129 2:=l6 CN Tryz.underlying129 rfl
theorem eN:ll 129:=fun _ _ _ _ _ _ _ _=>rfl
theorem wJ:(Tryz.prog.info? 186).map (·.size)=some 2:=af
theorem jv:lj 186:=fun _ _ _ _ _ _ _=>rfl
theorem kJ:lh 186 2:=l6 wJ Tryz.underlying186 rfl
theorem iC:ll 186:=fun _ _ _ _ _ _ _ _=>rfl
theorem qJ:(Tryz.prog.info? 143).map (·.size)=some 5:=af
theorem tS:lj 143:=fun _ _ _ _ _ _ _=>rfl
theorem wX:lh 143 5:=l6 qJ Tryz.underlying143 rfl
theorem rV:ll 143:=fun _ _ _ _ _ _ _ _=>rfl
theorem aN{fn:Func}{p:Tmp}{ty t:TypeId}{n:Nat}{C:Array Value}(h:fn.results=#[.cell p ty])(tmps:Array Value)(W:World)(g:Nat)(hp:tmps.getD p undef= .pointer (some ⟨g,0,none⟩))(hr:aK W g t n=true)(hC:aH W g=C)(hi:(Tryz.prog.info? ty).map (·.size)=some n)(hagg:∀w,(isAgg ty).run Tryz.prog w= .ok true w):(results fn tmps).run Tryz.prog W= .ok (.agg C) W:=by
 obtain⟨h1,h2⟩:=bK hr;rw[hC]at h1 h2;have hl:(loadCells ⟨g,0,none⟩ C.toList.length).run Tryz.prog W= .ok C.toList.toArray W:=run_loadCells_list (P:=Tryz.prog) W ⟨g,0,none⟩ C.toList (fun j v hv=>by have hadd:(⟨g,0,none⟩:Addr).add j=⟨g,j,none⟩:=BT;rw[hadd,cell_of_row W g j _ t (0,0) h1];simpa using hv);have hp':tmps[p]?.getD undef= .pointer (some ⟨g,0,none⟩):=by simpa using hp
 cases hq:Tryz.prog.info? ty with
  |none=>rw[hq]at hi;cases hi
  |some i=>
   have hs:i.size=C.size:=by rw[hq]at hi;rw[h2];simpa using hi
   simp only[Array.length_toList,Array.toArray_toList]at hl;simp[results,h,hp',asAddr,loadVar,Sem.run_bind,hagg,sizeOf,typeInfo,hq,hs,hl]
theorem OZ(w:World):(isAgg 29).run Tryz.prog w= .ok true w:=by unfold isAgg;rw[Sem.run_bind,run_underlying Tryz.underlying29 w];rfl
theorem ic(w:World):(isAgg 64).run Tryz.prog w= .ok true w:=by unfold isAgg;rw[Sem.run_bind,run_underlying Tryz.underlying64 w];rfl
theorem FA(w:World):(isAgg 75).run Tryz.prog w= .ok true w:=by unfold isAgg;rw[Sem.run_bind,run_underlying Tryz.underlying75 w];rfl
theorem ea(w:World):(isAgg 103).run Tryz.prog w= .ok true w:=by unfold isAgg;rw[Sem.run_bind,run_underlying Tryz.underlying103 w];rfl
theorem j9(w:World):(isAgg 105).run Tryz.prog w= .ok true w:=by unfold isAgg;rw[Sem.run_bind,run_underlying Tryz.underlying105 w];rfl
theorem Ao(w:World):(isAgg 198).run Tryz.prog w= .ok true w:=by unfold isAgg;rw[Sem.run_bind,run_underlying Tryz.underlying198 w];rfl
theorem Fz(w:World):(isAgg 62).run Tryz.prog w= .ok true w:=by unfold isAgg;rw[Sem.run_bind,run_underlying Tryz.underlying62 w];rfl
theorem wd(w:World):(isAgg 101).run Tryz.prog w= .ok true w:=by unfold isAgg;rw[Sem.run_bind,run_underlying Tryz.underlying101 w];rfl
theorem BM(w:World):(isAgg 36).run Tryz.prog w= .ok true w:=by unfold isAgg;rw[Sem.run_bind,run_underlying Tryz.underlying36 w];rfl
theorem BN(w:World):(isAgg 51).run Tryz.prog w= .ok true w:=by unfold isAgg;rw[Sem.run_bind,run_underlying Tryz.underlying51 w];rfl
theorem fu(w:World):(isAgg 47).run Tryz.prog w= .ok true w:=by unfold isAgg;rw[Sem.run_bind,run_underlying Tryz.underlying47 w];rfl
theorem MC(w:World):(isAgg 186).run Tryz.prog w= .ok true w:=by unfold isAgg;rw[Sem.run_bind,run_underlying Tryz.underlying186 w];rfl
section
section
variable{P:Program}{Q:Exit→Act→World→Prop}
def aU:List Oper→Nat→List Oper
 |[],_=>[]
 |o::_,0=>[o]
 |_::l,n+1=>aU l n
def bX(L:List Oper):List Nat→List Oper
 |[]=>[]
 |i::is=>aU L i++bX L is
theorem gS:∀{L:List Oper}{i:Nat}{o:Oper},L[i]? =some o→aU L i=[o]
 |[],_,_,h=>by simp at h
 |_::_,0,_,h=>by simp at h;simp[aU,h]
 |_::L,i+1,_,h=>by simpa[aU]using gS (L:=L) (i:=i) rn
def kS(P:Program)(K:Act→Prop):List Oper→Act→Prop
 |[],a=>K a
 |o::r,a=>∃v,(∀w,(execOp a.eval o).run P w= .ok (.value v) w)∧kS P K r (a.put o.dst v)
theorem ge{K:Act→Prop}{a:Act}(h:K a):kS P K [] a:=h
theorem iF{K:Act→Prop}{a:Act}{o:Oper}{r:List Oper}{v:Value}(h:∀w,(execOp a.eval o).run P w= .ok (.value v) w)(h':kS P K r (a.put o.dst v)):kS P K (o::r) a:=⟨v,h,h'⟩
def vB(ops:Array Oper):List Nat→Array Bool→Bool
 |[],L=>(Region.ready .any ops L).isEmpty
 |j::rs,L=>(Region.ready .any ops L==[j])&&(ops[j]?).isSome&&vB ops rs (L.setIfInBounds j true)
def lR(ops:Array Oper):List Nat→List Nat→Array Bool→Bool
 |[],rs,L=>vB ops rs L
 |i::fs,rs,L=>Region.free .any ops L i&&(Region.ready .any ops L).contains i&&(match ops[i]? with|some o=>o.guard.isNone|none=>false)&&lR ops fs rs (L.setIfInBounds i true)
theorem tm{l:List Oper}:∀(rs:List Nat)(L:Array Bool)(a:Act)(w:World),lR l.toArray [] rs L=true→wpList P l.toArray Q (bX l rs) a w→wpAny P .any l.toArray Q rs.length L a w
 |[],L,a,w,hB,h=>by simp only[lR,vB,List.isEmpty_iff]at hB;exact⟨hB,h⟩
 |j::rs,L,a,w,hB,h=>by
  simp only[lR,vB,Bool.and_eq_true,beq_iff_eq]at hB;obtain⟨⟨h1,h2⟩,h3⟩:=hB;obtain⟨o,ho⟩:=Option.isSome_iff_exists.1 h2;refine⟨fun h0=>by rw[h0]at h1;exact absurd h1 ay,fun i hi=>?_⟩;rw[h1]at hi;simp only[List.mem_singleton]at hi;subst hi;have hp:bX l (i::rs)=o::bX l rs:=by show aU l i++_=_;rw[gS gB];rfl
  rw[hp]at h;refine wpOp_mono (fun a' w' h'=>tm rs _ a' w' h3 h') ?_;unfold wpOp;rw[ho];exact h
end
end
section
section
variable{P:Program}{Q:Exit→Act→World→Prop}{C:World→Prop}
theorem xD{md:Region.Mode}{ops:Array Oper}:∀(k m:Nat)(L:Array Bool)(a:Act)(w:World),wpAny P md ops Q k L a w→wpAny P md ops Q (m+k) L a w
 |0,0,_,_,_,h=>h
 |0,m+1,_,_,_,h=>⟨fun _=>h.2,fun i hi=>by rw[h.1]at hi;cases hi⟩
 |k+1,m,L,a,w,h=>⟨h.1,fun i hi=>wpOp_mono (fun a' w' h'=>xD k m _ a' w' h') (h.2 i hi)⟩
def sX(ops:Array Oper):List Nat→Array Bool→Bool
 |[],M=>(Region.ready .any ops M).isEmpty
 |i::qs,M=>Region.free .any ops M i&&(Region.ready .any ops M).contains i&&(ops[i]?).isSome&&sX ops qs (M.setIfInBounds i true)
theorem lN{l:List Oper}{K:Act→Prop}(hs:Region.noSelect l.toArray=true):∀(qs:List Nat)(M:Array Bool)(a:Act),sX l.toArray qs M=true→wpQuiet P l.toArray C K (bX l qs) a→wpAnyQ P .any l.toArray C K qs.length M a
 |[],M,a,hB,h=>by simp only[sX,List.isEmpty_iff]at hB;exact⟨hB,h⟩
 |i::qs,M,a,hB,h=>by
  simp only[sX,Bool.and_eq_true]at hB;obtain⟨⟨⟨h1,h2⟩,h3⟩,h4⟩:=hB;obtain⟨o,ho⟩:=Option.isSome_iff_exists.1 h3;have hp:bX l (i::qs)=o::bX l qs:=by show aU l i++_=_;rw[gS gB];rfl
  rw[hp]at h;have hst:qOp P l.toArray C i (wpQuiet P l.toArray C K (bX l qs)) a:=by unfold qOp;simp only[ho];exact h
  obtain⟨v,hy,hK⟩:=yieldsIn_of_qOp ho hst;exact wpAnyQ_first ho (Region.noSelect_spec hs) qs.length M a (Region.free_spec ho h1) xU hy (lN hs qs _ _ h4 hK)
structure Rl(n:Nat)(rs:List Nat)(L M:Array Bool):Prop where
 size:L.size=n
 size':M.size=n
 same:∀j,j∉rs→L[j]? =M[j]?
 lo:∀j,j∈rs→j<n→L[j]? =some false
 hi:∀j,j∈rs→j<n→M[j]? =some true
theorem Rl.set{n:Nat}{rs:List Nat}{L M:Array Bool}(h:Rl n rs L M){i:Nat}(hi:i∉rs):Rl n rs (L.setIfInBounds i true) (M.setIfInBounds i true):=by
 refine⟨by simpa using h.size,by simpa using h.size',fun j hj=>?_,fun j hj hn=>?_,fun j hj hn=>?_⟩;·simp only[Array.getElem?_setIfInBounds,h.size,h.size',h.same j hj]
 ·have:i≠j:=fun e=>hi (e▸hj);simp only[Array.getElem?_setIfInBounds,this,if_false,h.lo j hj hn]
 ·have:i≠j:=fun e=>hi (e▸hj);simp only[Array.getElem?_setIfInBounds,this,if_false,h.hi j hj hn]
def rh(l:List Oper)(rs:List Nat):Bool:=(List.range l.length).all fun j=>rs.contains j||match l[j]? with
 |some o=>o.after.all fun e=> !Region.binds .any e||(decide (e.on<j)&&!rs.contains e.on)
 |none=>true
def nx(l:List Oper):Nat→Nat→Nat→Bool
 |0,_,_=>false
 |k+1,r,q=>match l[r]? with
  |some o=>o.after.any fun e=>Region.binds .any e&&(e.on==q||nx l k e.on q)
  |none=>false
def I4(l:List Oper)(qs rs:List Nat):Bool:=rs.all fun r=>qs.all fun q=>nx l l.length r q
def mX(l:List Oper)(L:Array Bool):Prop:=∀i o,l[i]? =some o→L.getD i false=true→∀e∈o.after,Region.binds .any e=true→L.getD e.on false=true
def JS(l:List Oper)(fs:List Nat):Bool:=fs.all fun i=>match l[i]? with
 |some o=>o.after.all fun e=> !Region.binds .any e||fs.contains e.on
 |none=>true
theorem ny{l:List Oper}{L:Array Bool}(hc:mX l L):∀(k r q:Nat)(o:Oper),l[r]? =some o→(∀e∈o.after,Region.binds .any e=true→L.getD e.on false=true)→nx l k r q=true→L.getD q false=true
 |0,_,_,_,_,_,h=>by simp[nx]at h
 |k+1,r,q,o,ho,hr,h=>by
  simp only[nx,ho]at h;obtain⟨e,he,hb⟩:=Array.any_eq_true'.1 h;simp only[Bool.and_eq_true,Bool.or_eq_true,beq_iff_eq]at hb;have h1:=hr e he hb.1;rcases hb.2 with h2|h2;·rw[←h2];exact h1
  ·cases hl:l[e.on]? with
    |none=>
     cases k with
      |zero=>simp[nx]at h2
      |succ k=>simp only[nx,hl]at h2;cases h2
    |some o'=>exact ny hc k e.on q o' hl (fun e' he' hb'=>hc e.on o' hl h1 e' he' hb') h2
theorem ry{l:List Oper}{L:Array Bool}(hc:mX l L)(hn:L.size=l.length){i:Nat}(hi:i∈Region.ready .any l.toArray L):mX l (L.setIfInBounds i true):=by
 obtain⟨h0,o,ho,hall⟩:=mem_ready.1 hi;have ho':l[i]? =some o:=gB;intro j oj hj hL e he hb;have up:∀k,L.getD k false=true→(L.setIfInBounds i true).getD k false=true:=fun k hk=>by
  simp only[Array.getD_eq_getD_getElem?,Array.getElem?_setIfInBounds]at hk⊢;by_cases e:i=k;·subst e;rw[if_pos rfl];split<;>simp_all
  ·rw[if_neg e];exact hk
 by_cases e1:i=j;·subst e1;rw[ho']at hj;obtain rfl:=Option.some.inj hj;exact up _ (hall e he hb)
 ·refine up _ (hc j oj hj ?_ e he hb);simp only[Array.getD_eq_getD_getElem?,Array.getElem?_setIfInBounds,if_neg e1]at hL⊢;exact hL
def fL(ops:Array Oper):List Nat→Array Bool→Bool
 |[],_=>true
 |i::fs,L=>Region.free .any ops L i&&(Region.ready .any ops L).contains i&&(match ops[i]? with|some o=>o.guard.isNone|none=>false)&&fL ops fs (L.setIfInBounds i true)
def dH(L:Array Bool)(js:List Nat):Array Bool:=js.foldl (fun L j=>L.setIfInBounds j true) L
def sL(n:Nat)(rs:List Nat):Array Bool:=((List.range n).map fun j=> !rs.contains j).toArray
def AK(n:Nat)(fs qs rs:List Nat):Bool:=(List.range n).all (fun j=>fs.contains j||qs.contains j||rs.contains j)&&fs.all (fun j=> !rs.contains j)&&qs.all (fun j=> !rs.contains j)&&rs.all (fun j=>decide (j<n))&&fs.all (fun j=>decide (j<n))
def ED(l:List Oper)(fs qs rs:List Nat):Bool:=Region.noSelect l.toArray&&AK l.length fs qs rs&&rh l rs&&(I4 l qs rs&&JS l fs)&&fL l.toArray fs (Array.replicate l.length false)&&sX l.toArray qs (dH (dH (Array.replicate l.length false) fs) rs)&&lR l.toArray [] rs (sL l.length rs)&&decide (fs.length+qs.length+rs.length=l.length)
theorem uO{l:List Oper}(hs:Region.noSelect l.toArray=true)(hQ:∀c(a:Act)d v w,Q (.panic c) (a.put d v) w→Q (.panic c) a w)(w:World)(K:Act→Prop)(m:Nat):∀(fs:List Nat)(L:Array Bool)(a:Act),fL l.toArray fs L=true→(∀a,K a→wpAny P .any l.toArray Q m (dH L fs) a w)→kS P K (bX l fs) a→wpAny P .any l.toArray Q (fs.length+m) L a w
 |[],L,a,hB,hK,h=>uC
 |i::fs,L,a,hB,hK,h=>by
  simp only[fL,Bool.and_eq_true]at hB;obtain⟨⟨⟨h1,h2⟩,h3⟩,h4⟩:=hB;split at h3;·
   rename_i o ho;have hp:bX l (i::fs)=o::bX l fs:=by show aU l i++_=_;rw[gS gB];rfl
   rw[hp]at h;obtain⟨v,hv,h5⟩:=h;have e:(i::fs).length+m=(fs.length+m)+1:=aF;rw[e];refine wpAny_take ho hs h1 h2 (fun c a w h=>hQ c a _ _ w h) (v:=v) (.inl ⟨?_,hv⟩) (uO hs hQ w K m fs _ _ h4 (fun a h=>uC) h5);unfold Region.wanted;rw[Option.isNone_iff_eq_none.1 h3]
  ·cases h3
theorem o9{l:List Oper}{rs:List Nat}(h:rh l rs=true){j:Nat}(hj:j∉rs){o:Oper}(ho:l[j]? =some o):∀e∈o.after,Region.binds .any e=true→e.on<j∧e.on∉rs:=by unfold rh at h;simp only[List.all_eq_true,List.mem_range]at h;have h1:=h j (List.getElem?_eq_some_iff.1 ho).1;rw[ho]at h1;simp only[Bool.or_eq_true,List.contains_iff_mem,hj,false_or,Array.all_eq_true_iff_forall_mem,Bool.and_eq_true,decide_eq_true_eq,Bool.not_eq_true']at h1;intro e he hb;have:=h1 e he;rw[hb]at this;simpa using this
theorem jM{n:Nat}{rs:List Nat}{L M:Array Bool}(h:Rl n rs L M){j:Nat}(hj:j∉rs)(d:Bool):L.getD j d=M.getD j d:=by simp[Array.getD_eq_getD_getElem?,h.same j hj]
theorem kC{l:List Oper}{rs:List Nat}{L M:Array Bool}(hB:rh l rs=true)(h:Rl l.length rs L M){i:Nat}(hi:i∉rs):i∈Region.ready .any l.toArray L↔i∈Region.ready .any l.toArray M:=by
 rw[mem_ready,mem_ready,jM h hi];constructor;·rintro⟨h0,o,ho,hall⟩;exact⟨h0,o,ho,fun e he hb=>by rw[←jM h (o9 hB hi gB e he hb).2];exact hall e he hb⟩
 ·rintro⟨h0,o,ho,hall⟩;exact⟨h0,o,ho,fun e he hb=>by rw[jM h (o9 hB hi gB e he hb).2];exact hall e he hb⟩
theorem kQ{l:List Oper}{rs:List Nat}{L M:Array Bool}(hB:rh l rs=true)(h:Rl l.length rs L M)(hr:Region.ready .any l.toArray M=[]):∀j,j<l.length→M.getD j false=true:=by
 intro j;induction j using Nat.strongRecOn with
  |_ j ih=>
   intro hj;by_cases hrs:j∈rs;·simp[Array.getD_eq_getD_getElem?,h.hi j hrs hj]
   ·cases hv:M.getD j false with
     |true=>rfl
     |false=>
      exfalso;have hs:j<M.size:=by rw[h.size'];exact hj
      have:j∈Region.ready .any l.toArray M:=by
       refine mem_ready.2 ⟨?_,l[j],ay,fun e he hb=>?_⟩;·simp[hs]at hv⊢;exact hv
       ·have:=o9 hB hrs (List.getElem?_eq_getElem hj) e he hb;exact ih e.on this.1 (Nat.lt_trans this.1 hj)
      rw[hr]at this;cases this
theorem kh{n:Nat}{rs:List Nat}{L M:Array Bool}(h:Rl n rs L M)(hd:∀j,j<n→M.getD j false=true):L=sL n rs:=by
 apply Array.ext_getElem?;intro j;by_cases hj:j<n;·
  by_cases hrs:j∈rs;·rw[h.lo j hrs hj];simp[sL,hj,hrs]
  ·have h1:=hd j hj;have hs:j<M.size:=by rw[h.size'];exact hj
   rw[h.same j hrs];simp[hs]at h1;simp[sL,hj,hrs,hs,h1]
 ·rw[Array.getElem?_eq_none (by rw[h.size];omega),Array.getElem?_eq_none (by simp[sL];omega)]
theorem EE{l:List Oper}{qs rs:List Nat}{K:Act→Prop}{k:Nat}(hB:rh l rs=true)(hW:I4 l qs rs=true)(hK:∀a w,C w→K a→wpAny P .any l.toArray Q k (sL l.length rs) a w)(S:Array Bool→Prop)(hS:∀L i,S L→i∈Region.ready .any l.toArray L→S (L.setIfInBounds i true))(hcl:∀L,S L→mX l L)(hfs:∀L M,S L→Rl l.length rs L M→∀j,j<l.length→j∉rs→j∉qs→L.getD j false=true):∀(f:Nat)(L M:Array Bool)(a:Act)(w:World),S L→Rl l.length rs L M→C w→wpAnyQ P .any l.toArray C K f M a→wpAny P .any l.toArray Q (f+k) L a w:=by
 intro f;induction f with
  |zero=>intro L M a w hSL h hC hq;have:=kh h (kQ hB h hq.1);subst this;rw[Nat.zero_add];exact hK a w hC hq.2
  |succ f ih=>
   intro L M a w hSL h hC hq;by_cases hr:Region.ready .any l.toArray M=[];·have:=kh h (kQ hB h hr);subst this;exact xD _ _ _ _ _ (hK a w hC (hq.1 hr))
   ·rw[show f+1+k=(f+k)+1 by omega];have notrs:∀i,i∈Region.ready .any l.toArray M→i∉rs:=fun i hi hrs=>by
     obtain⟨h0,o,ho,_⟩:=mem_ready.1 hi;have hil:i<l.length:=by have:=(Array.getElem?_eq_some_iff.1 ho).1;simpa using this
     have:=h.hi i hrs hil;simp[Array.getD_eq_getD_getElem?,this]at h0
    refine⟨fun h0=>?_,fun i hi=>?_⟩;·obtain⟨i,hi⟩:=List.exists_mem_of_ne_nil _ hr;have:=(kC hB h (notrs i hi)).2 hi;rw[h0]at this;cases this
    ·by_cases hrs:i∈rs;·
      exfalso;apply hr;obtain⟨h0,o,ho,hall⟩:=mem_ready.1 hi;have ho':l[i]? =some o:=gB;have hq':∀q∈qs,L.getD q false=true:=fun q hqm=>by have h1:=List.all_eq_true.1 hW i hrs;exact ny (hcl L hSL) _ i q o ho' hall (List.all_eq_true.1 h1 q hqm)
      refine List.eq_nil_iff_forall_not_mem.2 fun j hj=>?_;have hjr:=notrs j hj;obtain⟨h3,oj,hoj,_⟩:=mem_ready.1 hj;have hjl:j<l.length:=by have:=(Array.getElem?_eq_some_iff.1 hoj).1;simpa using this
      have h4:L.getD j false=true:=by
       by_cases hjq:j∈qs;·exact hq' j hjq
       ·exact hfs L M hSL h j hjl hjr hjq
      rw[jM h hjr]at h4;have hs:j<M.size:=by rw[h.size'];exact hjl
      simp[hs]at h3 h4;rw[h3]at h4;cases h4
     ·have hi':=(kC hB h hrs).1 hi;exact wpOp_of_qOp hC (fun a' w' hC' hK'=>ih _ _ a' w' (hS _ _ hSL hi) (h.set hrs) hC' hK') (hq.2 i hi')
theorem iW(n:Nat):∀(js:List Nat)(L:Array Bool),L.size=n→(dH L js).size=n∧∀j,j<n→(dH L js)[j]? =some (decide (j∈js)||L.getD j false)
 |[],L,hn=>⟨hn,fun j hj=>by simp[dH,hn,hj]⟩
 |i::js,L,hn=>by
  have:=iW n js (L.setIfInBounds i true) (by simpa using hn);refine⟨this.1,fun j hj=>?_⟩;have h2:=this.2 j hj;rw[show dH L (i::js)=dH (L.setIfInBounds i true) js from rfl,h2];simp only[Array.getD_eq_getD_getElem?,Array.getElem?_setIfInBounds,hn,List.mem_cons];by_cases e:i=j;·subst e;simp[hj]
  ·simp[e,Ne.symm e]
theorem oM{id:Nat}{a:Act}{w:World}{l:List Oper}(C:World→Prop)(fs qs rs:List Nat)(hm:P.follows .mixedOrders=true)(hB:ED l fs qs rs=true)(hQ:∀c(a:Act)d v w,Q (.panic c) (a.put d v) w→Q (.panic c) a w)(hC:C w.drew)(h:kS P (wpQuiet P l.toArray C (fun a'=>∀w',C w'→wpList P l.toArray Q (bX l rs) a' w') (bX l qs)) (bX l fs) a):(Code.region id l.toArray true).wp P Q a w:=by
 simp only[ED,Bool.and_eq_true,decide_eq_true_eq]at hB;obtain⟨⟨⟨⟨⟨⟨⟨hs,hc⟩,hb⟩,hw,hcB⟩,hf⟩,hq⟩,hr⟩,hlen⟩:=hB;simp only[AK,Bool.and_eq_true,List.all_eq_true,List.mem_range,Bool.or_eq_true,List.contains_iff_mem,Bool.not_eq_true',decide_eq_true_eq]at hc;obtain⟨⟨⟨⟨c1,c2⟩,c3⟩,c4⟩,c5⟩:=hc;have c2':∀j∈fs,j∉rs:=fun j hj hr=>by have:=c2 j hj;simp[hr]at this
 have c3':∀j∈qs,j∉rs:=fun j hj hr=>by have:=c3 j hj;simp[hr]at this
 refine wp_region_any hm ?_;have hsz:(Array.replicate l.length false).size=l.length:=ay;obtain⟨s1,g1⟩:=iW l.length fs _ hsz;obtain⟨s2,g2⟩:=iW l.length rs _ s1;have hR:Rl l.length rs (dH (Array.replicate l.length false) fs) (dH (dH (Array.replicate l.length false) fs) rs):=by
  refine⟨s1,s2,fun j hj=>?_,fun j hj hn=>?_,fun j hj hn=>?_⟩;·
   rcases Nat.lt_or_ge j l.length with hn|hn;·rw[g2 j hn];simp[hj,s1,hn]
   ·rw[Array.getElem?_eq_none aa,Array.getElem?_eq_none aa]
  ·rw[g1 j hn];have:j∉fs:=fun e=>c2' j e hj;simp[this,hn]
  ·rw[g2 j hn];simp[hj]
 have key:=uO (P:=P) (Q:=Q) (l:=l) hs hQ w.drew (wpQuiet P l.toArray C (fun a'=>∀w',C w'→wpList P l.toArray Q (bX l rs) a' w') (bX l qs)) (qs.length+rs.length) fs (Array.replicate l.length false) a hf (fun a1 h1=>EE (C:=C) (K:=fun a'=>∀w',C w'→wpList P l.toArray Q (bX l rs) a' w') (k:=rs.length) hb hw (fun a' w' hC' hK'=>tm rs _ a' w' hr (hK' w' hC')) (fun L=>L.size=l.length∧mX l L∧∀j∈fs,L.getD j false=true) (fun L i⟨hL0,hL1,hL⟩hi=>⟨by simpa using hL0,ry hL1 hL0 hi,fun j hj=>by
  by_cases e:i=j;·
   subst e;by_cases hsz':i<L.size;·simp[Array.getD_eq_getD_getElem?,hsz']
   ·have:=hL i hj;simp[Array.getD_eq_getD_getElem?,Array.getElem?_eq_none (Nat.le_of_not_lt hsz')]at this
  ·have:=hL j hj;simpa[Array.getD_eq_getD_getElem?,Array.getElem?_setIfInBounds,e]using this⟩) (fun L hL=>hL.2.1) (fun L M hL _ j hj hjr hjq=>by
  rcases c1 j hj with(h|h)|h;·exact hL.2.2 j h
  ·exact absurd h hjq
  ·exact absurd h hjr) qs.length _ _ a1 w.drew ⟨s1,fun i o ho hL e he hb=>by
  have hin:i<l.length:=(List.getElem?_eq_some_iff.1 ho).1;have hif:i∈fs:=by have:=g1 i hin;simp only[Array.getD_eq_getD_getElem?,this]at hL;simpa[hin]using hL
  have h1:=List.all_eq_true.1 hcB i hif;rw[ho]at h1;simp only[Array.all_eq_true_iff_forall_mem,Bool.or_eq_true,Bool.not_eq_true',List.contains_iff_mem]at h1;rcases h1 e he with h2|h2;·rw[hb]at h2;cases h2
  ·simp[Array.getD_eq_getD_getElem?,g1 e.on (c5 _ h2),h2],fun j hj=>by have hjn:=c5 j hj;simp[Array.getD_eq_getD_getElem?,g1 j hjn,hj]⟩ hR hC (lN hs qs _ a1 hq h1)) h;have e:fs.length+(qs.length+rs.length)=l.toArray.size:=aF;rw[e]at key;simpa using key
end
end
end Go.Proofs.YtnncjbkepakgpaaGreat
