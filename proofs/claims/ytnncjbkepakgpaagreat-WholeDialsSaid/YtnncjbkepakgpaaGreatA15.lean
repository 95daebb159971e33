/- THE PART OF A CALL. WHO IS AHEAD. THE FIRST OF THOSE THAT COUNT. THE FIRST OF THOSE THAT COUNT: rank.First. THOSE THAT ARE PICKED, THOSE THAT ARE DROPPED. -/
import Derived.Test.YtnncjbkepakgpaaGreatA14
import Derived.Test.YtnncjbkepakgpaaGreatA11
namespace Go.Proofs.YtnncjbkepakgpaaGreat
open Go.RowKit Qv
set_option linter.unusedVariables false
set_option linter.unusedSimpArgs false
set_option maxRecDepth 100000
set_option maxHeartbeats 4000000
section
attribute[local go_sem↓]bv bj da cJ dM dv dt db
attribute[local go_sem]bN bz dx dc eA dO dT dy dC bq
open Plain
def vj(c:Nat):BitVec 64:=ofB 1#64 [4#64,0#64,BitVec.ofInt 64 (aM c),BitVec.ofInt 64 32]
theorem Nw(c:Nat)(W:World)(g:Nat)(hg:bc W g=true)(hr:aH W g=(#[J 4,U,J (aM c),J 32]:AV))(k:Nat)(hk:k<[4#64,0#64,BitVec.ofInt 64 (aM c),BitVec.ofInt 64 32].length):W.cell? ⟨g,0+k,none⟩=some (.int .u64 (toI [4#64,0#64,BitVec.ofInt 64 (aM c),BitVec.ofInt 64 32][k])):=by
 have e4:toI 4#64=4:=az;have e0:toI 0#64=0:=az;have en:toI (BitVec.ofInt 64 32)=32:=az;have wn:IntKind.u64.wrap 32=32:=az;have ex:toI (BitVec.ofInt 64 (aM c))=aM c:=toI_ofInt BS BS;rw[gv _ hg,hr];match k,hk with
  |0,_=>simp[e4]
  |1,_=>simp[e0]
  |2,_=>simp[ex]
  |3,_=>simp;decide
theorem NY(c:Nat)(w:World):Calls Tryz.prog 125 #[J 1,.agg (#[F,U,J (aM c),I 32])] w fun e w'=>e= .returned (J (toI (vj c)))∧Below w.heap.size w w':=by have e1:(1:Int)=toI 1#64:=az;go_enter Tryz.func125,Tryz.ntmps125;go_wp2_with fail;rw[e1];refine(wO 1#64 [4#64,0#64,BitVec.ofInt 64 (aM c),BitVec.ofInt 64 32] _ 0 4 _ (by unfold maxLen;simp) (fun k hk=>Nw c _ _ dq dq k hk)).mono ?_;rintro e w'⟨rfl,rfl⟩;go_wp2;go_ret;exact⟨rfl,i6⟩
def Ht(c:Nat):BitVec 64:=ofB 1#64 [4#64,0#64,BitVec.ofInt 64 (Ek c),BitVec.ofInt 64 16]
theorem Nv(c:Nat)(W:World)(g:Nat)(hg:bc W g=true)(hr:aH W g=(#[J 4,U,J (Ek c),J 16]:AV))(k:Nat)(hk:k<[4#64,0#64,BitVec.ofInt 64 (Ek c),BitVec.ofInt 64 16].length):W.cell? ⟨g,0+k,none⟩=some (.int .u64 (toI [4#64,0#64,BitVec.ofInt 64 (Ek c),BitVec.ofInt 64 16][k])):=by
 have e4:toI 4#64=4:=az;have e0:toI 0#64=0:=az;have en:toI (BitVec.ofInt 64 16)=16:=az;have wn:IntKind.u64.wrap 16=16:=az;have ex:toI (BitVec.ofInt 64 (Ek c))=Ek c:=toI_ofInt BS BS;rw[gv _ hg,hr];match k,hk with
  |0,_=>simp[e4]
  |1,_=>simp[e0]
  |2,_=>simp[ex]
  |3,_=>simp;decide
theorem NX(c:Nat)(w:World):Calls Tryz.prog 125 #[J 1,.agg (#[F,U,J (Ek c),I 16])] w fun e w'=>e= .returned (J (toI (Ht c)))∧Below w.heap.size w w':=by have e1:(1:Int)=toI 1#64:=az;go_enter Tryz.func125,Tryz.ntmps125;go_wp2_with fail;rw[e1];refine(wO 1#64 [4#64,0#64,BitVec.ofInt 64 (Ek c),BitVec.ofInt 64 16] _ 0 4 _ (by unfold maxLen;simp) (fun k hk=>Nv c _ _ dq dq k hk)).mono ?_;rintro e w'⟨rfl,rfl⟩;go_wp2;go_ret;exact⟨rfl,i6⟩
theorem mj(n:Int)(h0:1≤n)(h1:n≤8)(w:World):Calls Tryz.prog 79 #[n] w fun e w'=>e= .returned n∧w=w':=by go_enter Tryz.func79,Tryz.ntmps79;go_wp2;go_ret;exact⟨fU aa,rfl⟩
def prt(S c:Nat):Nat:=(gt (vj c) S).toNat
theorem Dg(S c:Nat)(h0:1≤S)(h1:S≤8):(prt S c:Int)=gt (vj c) S:=by have:=uy (vj c) (S:Int) aa aa;unfold prt;omega
theorem sU(S c:Nat)(h0:1≤S)(h1:S≤8):prt S c<S:=by have:=uw (vj c) (S:Int) aa aa;have:=Dg S c h0 h1;omega
theorem N1(S c:Nat)(h0:1≤S)(h1:S≤8)(w:World):Calls Tryz.prog 80 #[.agg (#[F,U,J (aM c)]),J 1,S] w fun e w'=>e= .returned (I (prt S c))∧Below w.heap.size w w':=by have hp:=Dg S c h0 h1;go_enter Tryz.func80,Tryz.ntmps80;go_wp2_with(first|(go_at_call 126;refine(GP c _).mono ?_;rintro e w1⟨rfl,hb⟩;have hk:=aw.mk hb;have xx:=cZ hk.out;(try have zz:=zs w.heap.size w1.heap.size);clear hb)|(go_at_call 125;refine(NY c _).mono ?_;rintro e w1⟨rfl,hb⟩;have hk:=aw.mk hb;have xx:=cZ hk.out;(try have zz:=zs w.heap.size w1.heap.size);clear hb)|(go_at_call 79;refine(mj S aa aa _).mono ?_;rintro e w'⟨rfl,rfl⟩)|(go_at_call 124;refine(uz (vj c) S _).mono ?_;rintro e w'⟨rfl,rfl⟩));go_ret;exact⟨fU hp.symm,i6⟩
theorem oF(most S c:Nat)(h0:1≤S)(h1:S≤8)(w:World):Calls Tryz.prog 190 #[.agg (jI most S c)] w fun e w'=>e= .returned (I (prt S c))∧Below w.heap.size w w':=by have ed:jI most S c=(#[most,I 4,S,I 64,I 64,J 1,I 1,I 1,I 1,I 64,I 100,I 100,I 1000,I 2,I 64,I 4,I 1,F,U,J (aM c),I 80,F,U,U,Z,I (Pm.tOf c),Z,F]:AV):=rfl;rw[ed];go_enter Tryz.func190,Tryz.ntmps190;go_wp2_with(go_at_call 80;refine(N1 S c h0 h1 _).mono ?_;rintro e w1⟨rfl,hb⟩;have hk:=aw.mk hb;have xx:=cZ hk.out;(try have zz:=zs w.heap.size w1.heap.size);clear hb);go_ret;exact⟨rfl,i6⟩
end
section
attribute[local go_sem↓]bv bj aZ aW
attribute[local go_sem]bN bz dC bq
open Plain
theorem lM(L:List Int)(g n:Nat)(W:World)(hn:n=L.length)(hl:L.length≤10)(hg:bc W g=true)(hr:aH W g=(L.map fun a=>Value.int .i64 a).toArray):Calls Tryz.prog 116 #[G g n n] W fun e w'=>e= .returned (I (qD L))∧W=w':=by subst hn;exact N3 L g _ W aa (fun k hk=>by rw[gv _ hg,hr];simp[hk])
def GB(x y:Nat):Int:=qD [qD [0,0,fh (aM x) (aM y)],0]
theorem uJ(a:Int):fh a a=0:=ws rfl
@[irreducible]def Bb(x:Nat):Int:=toI (Ht x)
def MZ(by' x y:Nat):Int:=if by'=1 then fh (Bb y) (Bb x)else fh (Pm.tOf x) (Pm.tOf y)
def uQ(by' x y:Nat):Int:=qD [MZ by' x y,GB x y]
theorem Fv(x y:Nat)(w:World):Calls Tryz.prog 117 #[.agg (#[F,U,J (aM x)]),.agg (#[F,U,J (aM y)])] w fun e w'=>e= .returned (I (qD [0,0,fh (aM x) (aM y)]))∧Below w.heap.size w w':=by
 have hc0:=uJ 0;go_enter Tryz.func117,Tryz.ntmps117;go_upto_region 1 with(fail);refine eU [] [0,1,2,3,4,5,6,7,8,9,10,11,12,13,14] [15,16,17] af af (fun _ _ d _ _ h=>bo) ?_;simp only[PL];refine ge ?_;repeat
  (
   first|go_big_quiet_skip|
    (
     go_big_quiet_want;apply bp;·intro W hS;have xx:=cZ hS.out;(try have zz:=zs w.heap.size W.heap.size);go_simp;try first|with_reducible rfl|(go_at_call 174;refine(AX 0 (aM _) _).mono ?_;rintro e w'⟨rfl,rfl⟩;exact⟨rfl,cP hS (nO)⟩)|(go_at_call 175;refine(lX _ _ _).mono ?_;rintro e w'⟨rfl,rfl⟩;exact⟨rfl,hS⟩)|(go_at_call 118;refine(jd _ _ _).mono ?_;rintro e w'⟨rfl,rfl⟩;exact⟨rfl,hS⟩)
     go_big_quiet_on;try simp only[PT]))
 refine wpQuiet_nil ?_;intro w1 hS1;have xxa:=cZ hS1.out;(try have zza:=zs w.heap.size w1.heap.size);go_wp2_with(go_at_call 116;refine(lM [0,0,fh (aM x) (aM y)] _ _ _ rfl ay dq dq).mono ?_;rintro e w2⟨rfl,rfl⟩);go_ret;exact⟨rfl,bY⟩
theorem Cp(x y:Nat)(w:World):Calls Tryz.prog 75 #[.agg (#[F,U,J (aM x),I 80]),.agg (#[F,U,J (aM y),I 80])] w fun e w'=>e= .returned (I (GB x y))∧Below w.heap.size w w':=by
 have hc0:=uJ 80;go_enter Tryz.func75,Tryz.ntmps75;go_upto_region 1 with(fail);refine eU [] [0,1,2,3,4,5,6,7,8,9] [10,11,12] af af (fun _ _ d _ _ h=>bo) ?_;simp only[PL];refine ge ?_;repeat
  (
   first|go_big_quiet_skip|
    (
     go_big_quiet_want;apply bp;·intro W hS;have xx:=cZ hS.out;(try have zz:=zs w.heap.size W.heap.size);go_simp;try first|with_reducible rfl|(go_at_call 117;refine(Fv x y _).mono ?_;rintro e w'⟨rfl,hb⟩;exact⟨rfl,cP hS hb⟩)|(go_at_call 118;refine(jd _ _ _).mono ?_;rintro e w'⟨rfl,rfl⟩;exact⟨rfl,hS⟩)
     go_big_quiet_on;try simp only[PT]))
 refine wpQuiet_nil ?_;intro w1 hS1;have xxa:=cZ hS1.out;(try have zza:=zs w.heap.size w1.heap.size);go_wp2_with(go_at_call 116;refine(lM [qD [0,0,fh (aM x) (aM y)],0] _ _ _ rfl ay dq dq).mono ?_;rintro e w2⟨rfl,rfl⟩);go_ret;exact⟨rfl,bY⟩
theorem Kw(x:Nat)(w:World):Calls Tryz.prog 351 #[.agg (#[F,U,J (aM x),I 80,Y,I (Pm.tOf x),Z,I (Pm.tOf x),Z,Z]),J 1] w fun e w'=>e= .returned (J (Bb x))∧Below w.heap.size w w':=by
 go_enter Tryz.func351,Tryz.ntmps351;have hk0:Bb x=toI (Ht x):=by unfold Bb;rfl
 rw[hk0];clear hk0;go_wp2_with(first|(go_at_call 305;refine(Ej x _).mono ?_;rintro e w1⟨rfl,hb⟩;have hk:=aw.mk hb;have xx:=cZ hk.out;(try have zz:=zs w.heap.size w1.heap.size);clear hb)|(go_at_call 125;refine(NX x _).mono ?_;rintro e w1⟨rfl,hb⟩;have hk:=aw.mk hb;have xx:=cZ hk.out;(try have zz:=zs w.heap.size w1.heap.size);clear hb));go_ret;exact⟨rfl,bY⟩
theorem yh(by' x y:Nat)(hb:by'=1∨by'=4)(w:World):Calls Tryz.prog 339 #[.agg (#[F,U,J (aM x),I 80,Y,I (Pm.tOf x),Z,I (Pm.tOf x),Z,Z]),.agg (#[F,U,J (aM y),I 80,Y,I (Pm.tOf y),Z,I (Pm.tOf y),Z,Z]),by',J 1] w fun e w'=>e= .returned (I (MZ by' x y))∧Below w.heap.size w w':=by
 have hb1:MZ 1 x y=fh (Bb y) (Bb x):=by unfold MZ;rw[if_pos rfl]
 have hb4:MZ 4 x y=fh (Pm.tOf x) (Pm.tOf y):=by unfold MZ;rw[if_neg az]
 rcases hb with rfl|rfl;·
  rw[hb1];clear hb1 hb4;go_enter Tryz.func339,Tryz.ntmps339;go_upto_region 3 with(fail);refine bH af af ?_;repeat
   (
    first|go_big_quiet_skip|
     (
      go_big_quiet_want;apply bp;·intro W hS;have xx:=cZ hS.out;(try have zz:=zs w.heap.size W.heap.size);go_simp;try first|with_reducible rfl|(go_at_call 351;refine(Kw _ _).mono ?_;rintro e w'⟨rfl,hb⟩;exact⟨rfl,cP hS hb⟩)|(go_at_call 175;refine(lX _ _ _).mono ?_;rintro e w'⟨rfl,rfl⟩;exact⟨rfl,hS⟩)
      go_big_quiet_on;try simp only[PT]))
  refine wpQuiet_nil ?_;intro w1 hS1;have xxa:=cZ hS1.out;(try have zza:=zs w.heap.size w1.heap.size);go_wp2;go_ret;exact⟨rfl,bY⟩
 ·rw[hb4];clear hb1 hb4;go_enter Tryz.func339,Tryz.ntmps339;go_wp2_with(go_at_call 118;refine(jd _ _ _).mono ?_;rintro e w1⟨rfl,rfl⟩);go_ret;exact⟨rfl,bY⟩
theorem GQ(by' x y:Nat)(hb:by'=1∨by'=4)(w:World):Calls Tryz.prog 334 #[.agg (#[F,U,J (aM x),I 80,Y,I (Pm.tOf x),Z,I (Pm.tOf x),Z,Z]),.agg (#[F,U,J (aM y),I 80,Y,I (Pm.tOf y),Z,I (Pm.tOf y),Z,Z]),by',J 1] w fun e w'=>e= .returned (I (uQ by' x y))∧Below w.heap.size w w':=by
 go_enter Tryz.func334,Tryz.ntmps334;go_upto_region 1 with(fail);refine eU [] [0,1,2,3,4,5,6,7,8,9] [10,11,12] af af (fun _ _ d _ _ h=>bo) ?_;simp only[PL];refine ge ?_;repeat
  (
   first|go_big_quiet_skip|
    (
     go_big_quiet_want;apply bp;·intro W hS;have xx:=cZ hS.out;(try have zz:=zs w.heap.size W.heap.size);go_simp;try first|with_reducible rfl|(go_at_call 339;refine(yh by' x y hb _).mono ?_;rintro e w'⟨rfl,hb⟩;exact⟨rfl,cP hS hb⟩)|(go_at_call 75;refine(Cp x y _).mono ?_;rintro e w'⟨rfl,hb⟩;exact⟨rfl,cP hS hb⟩)
     go_big_quiet_on;try simp only[PT]))
 refine wpQuiet_nil ?_;intro w1 hS1;have xxa:=cZ hS1.out;(try have zza:=zs w.heap.size w1.heap.size);go_wp2_with(go_at_call 116;refine(lM [MZ by' x y,GB x y] _ _ _ rfl ay dq dq).mono ?_;rintro e w2⟨rfl,rfl⟩);go_ret;exact⟨rfl,bY⟩
theorem J0(x:Nat)(w:World):Calls Tryz.prog 331 #[.agg (#[F,U,J (aM x),I 80,Y,I (Pm.tOf x),Z,I (Pm.tOf x),Z,Z]),I 1] w fun e w'=>e= .returned Y∧w'=w.alloc (.cells (#[F,U,J (aM x),I 80,Y,I (Pm.tOf x),Z,I (Pm.tOf x),Z,Z]) 75):=by go_enter Tryz.func331,Tryz.ntmps331;go_wp2;go_ret;exact⟨rfl,rfl⟩
theorem J1(x:Nat)(w:World):Calls Tryz.prog 331 #[.agg (#[F,U,J (aM x),I 80,Y,I (Pm.tOf x),Z,I (Pm.tOf x),Z,Z]),I 2] w fun e w'=>e= .returned F∧w'=w.alloc (.cells (#[F,U,J (aM x),I 80,Y,I (Pm.tOf x),Z,I (Pm.tOf x),Z,Z]) 75):=by go_enter Tryz.func331,Tryz.ntmps331;go_wp2;go_ret;exact⟨rfl,rfl⟩
theorem J2(x:Nat)(w:World):Calls Tryz.prog 331 #[.agg (#[F,U,J (aM x),I 80,Y,I (Pm.tOf x),Z,I (Pm.tOf x),Z,Z]),I 3] w fun e w'=>e= .returned F∧w'=w.alloc (.cells (#[F,U,J (aM x),I 80,Y,I (Pm.tOf x),Z,I (Pm.tOf x),Z,Z]) 75):=by go_enter Tryz.func331,Tryz.ntmps331;go_wp2;go_ret;exact⟨rfl,rfl⟩
theorem J3(x:Nat)(w:World):Calls Tryz.prog 331 #[.agg (#[F,U,J (aM x),I 80,Y,I (Pm.tOf x),Z,I (Pm.tOf x),Z,Z]),I 4] w fun e w'=>e= .returned Y∧w'=w.alloc (.cells (#[F,U,J (aM x),I 80,Y,I (Pm.tOf x),Z,I (Pm.tOf x),Z,Z]) 75):=by go_enter Tryz.func331,Tryz.ntmps331;go_wp2;go_ret;exact⟨rfl,rfl⟩
end
section
attribute[local go_sem↓]aZ aW
attribute[local go_sem]dC bq
def fw(a:Nat):Array Value:=#[I (a:Int)]
theorem Ee(A:List Nat):flat (A.map fw)=A.map Hc:=by
 induction A with
  |nil=>rfl
  |cons a A ih=>simp only[flat,List.map_cons,List.flatMap_cons]at ih⊢;rw[ih];rfl
theorem yC{W:World}{B:Nat}{v:Value}{A:List Nat}(h:aV W B 3 1 v (A.map fw)):(v= .slice none 0 0∧A=[])∨∃g cap R,v= .slice (some ⟨g,0,none⟩) A.length cap∧B≤g∧g<W.heap.size∧dZ W g A R∧A.length≤cap∧cap≤maxLen:=by
 obtain⟨⟨h1,h2⟩,h3⟩:=h;rcases h2 with⟨rfl,h2⟩|⟨g,cap,cur,rfl,h4,h5,h6,h7,h8,h9⟩;·left;exact⟨rfl,xU⟩
 ·right;rw[List.length_map]at h6 h9⊢;have hg:=(Array.getElem?_eq_some_iff.1 h5).1;refine⟨g,cap,cur.toList.drop A.length,rfl,h4,hg,⟨?_,?_⟩,h6,h7⟩;·unfold bc;rw[h5];rfl
  ·unfold aH;rw[h5];simp only;rw[←Ee,←h9,Nat.mul_one,List.take_append_drop]
theorem C2{W:World}{g m cap:Nat}{D:List Nat}{R:List Value}(h:dZ W g D R)(hm:m≤D.length)(hg:g<W.heap.size)(h1:m≤cap)(h2:cap≤maxLen):Sl W (G g m cap) 1 ((D.take m).map fw):=by
 refine⟨_,cap,by simp[Nat.min_eq_left hm],by simpa[Nat.min_eq_left hm]using h1,h2,.inr ⟨g,0,rfl,hg,fun i C hC=>?_⟩⟩;simp only[List.getElem?_map,List.getElem?_take]at hC;split at hC;·
  rename_i him;have hi:i<D.length:=aa;rw[List.getElem?_eq_getElem hi]at hC;simp only[Option.map_some,Option.some.injEq]at hC;subst hC;have hc:=h.cell hi;have hr:=fO (W:=W) (p:=⟨g,0+i*1,none⟩) (cs:=[I (D[i]:Nat)]) (n:=1) rfl (fun k v hv=>by
   match k,hv with
    |0,hv=>simp only[List.getElem?_cons_zero,Option.some.injEq]at hv;subst hv;simpa[cF]using hc
    |k+1,hv=>simp at hv);exact⟨hg,hr.1,hr.2,rfl⟩
 ·simp at hC
theorem pK(P:List Nat)(v:Value)(by' b1 b2 b3 i k:Nat)(hb:by'=1∨by'=4)(w:World)(hs:Sl w v 10 (P.map aJ))(l1:b1<w.heap.size)(l2:b2<w.heap.size)(l3:b3<w.heap.size)(h1:w.cell? ⟨b1,0,none⟩=some v)(h2:w.cell? ⟨b2,0,none⟩=some (.int .i64 by'))(h3:w.cell? ⟨b3,0,none⟩=some (.int .u64 1))(hi:i<P.length)(hk:k<P.length):Calls Tryz.prog 333 #[I (i:Nat),I (k:Nat),H b1 0,H b2 0,H b3 0] w fun e w'=>e= .returned (I (uQ by' P[i] P[k]))∧Below w.heap.size w w':=by
 obtain⟨a,cap,rfl,q1,q2,q3⟩:=hs;rw[List.length_map]at q1 h1;rcases q3 with⟨_,q3⟩|⟨g,o,rfl,hg,q3⟩;·simp at q3;subst q3;simp at hi
 have hEi:=q3 i (aJ P[i]) (by simp[hi]);have hEk:=q3 k (aJ P[k]) nS;have e1:=hEi.is;have e2:=hEi.of;have e3:=hEk.is;have e4:=hEk.of;have hiz:(i:Int)<(P.length:Int):=aa;have hkz:(k:Int)<(P.length:Int):=aa;have n1:0≤(i:Int):=aa;have n2:0≤(k:Int):=aa;clear q3;go_enter Tryz.func333,Tryz.ntmps333;go_upto_region 1 with(fail);refine bH af af ?_;repeat
  (
   first|go_big_quiet_skip|
    (
     go_big_quiet_want;apply bp;·intro W hS;have xx:=cZ hS.out;(try have zz:=zs w.heap.size W.heap.size);go_simp;try first|with_reducible rfl|(go_at_call 334;refine(GQ by' P[i] P[k] hb _).mono ?_;rintro e w'⟨rfl,hb⟩;exact⟨rfl,cP hS hb⟩)
     go_big_quiet_on;try simp only[PT]))
 refine wpQuiet_nil ?_;intro w1 hS1;have xxa:=cZ hS1.out;(try have zza:=zs w.heap.size w1.heap.size);go_wp2;go_ret;exact⟨rfl,bY⟩
end
section
attribute[local go_sem↓]aZ aW
attribute[local go_sem]dC bq
theorem jo{p:Prop}(h:PQ p:=by have hE:=(q3 k (aJ P[k]) nS).block ((hB0.out.trans (hK.out.mono aF)).block g hg');have e1:=hE.is;have e2:=hE.of;have hgr:=hE.lt;have hkz:(k:Int)<(P.length:Int):=aa;have n1:0≤(k:Int):=aa;exact pq (And.intro hE (And.intro e1 (And.intro e2 (And.intro hgr (And.intro hkz n1)))))):p:=h
theorem qh{p:Prop}(h:p:=by
 rw[List.length_range]at HL;have HLH:=Lib.hid HL;have hmq:min (q:Int) (P.length:Int)=((min q P.length:Nat):Int):=aa;have hmq2:min (max (q:Int) 0) (P.length:Int)=((min q P.length:Nat):Int):=aa;have hm1:((min q P.length:Nat):Int)≤(cs:Int):=aa;have hm2:min q P.length≤cs:=aa;have hm3:0≤((min q P.length:Nat):Int):=aa;have hm4:(((min q P.length:Nat):Int)).toNat=min q P.length:=aa;have HB:=Lib.hid hB0.out;have hm5:min q P.length≤P.length:=aa;have hm6:P.length≤q→min q P.length=P.length:=aa;clear HL hcm q3;generalize min q P.length=mq at*;go_wp2_with(go_at_call 332;refine HLH.out.mono ?_;rintro e w1⟨rfl,D,hp,hS1,hU1⟩;have HR:=Lib.hid (show D.Perm (List.range P.length)∧dZ w1 gs D R∧ax gs wr w1 from⟨hp,hS1,hU1⟩);clear hp hS1 hU1);obtain⟨hp,hS1,hU1⟩:=HR.out;have hDl:D.length=P.length:=by simpa using hp.length_eq
 refine bodyPost_ret (results_tmp rfl _ _ _) rfl ?_;refine⟨D.take mq,_,rfl,C2 hS1 aa (Nat.lt_of_lt_of_le g2 hU1.size) hm2 g4,xN,fun x hx=>?_,fun hq2 x hx=>?_,?_⟩;·exact List.mem_range.1 (hp.mem_iff.1 (List.mem_of_mem_take hx))
 ·rw[hm6 hq2,←hDl,List.take_length];exact hp.mem_iff.2 (List.mem_range.2 hx)
 ·exact(HB.out.trans (hK.out.mono aF)).trans (hU1.below aa aa)):p:=h
theorem qi{p:Prop}(h:p:=by
 go_wp2_with(at_builtin;refine Jn rfl (.tmp 22) (.tmp 24) rfl (w.heap.size+3) _ ((List.range k).map fw) [fw k] rfl (HO.out.below (nO)) _ _ _ rfl (cY _ (fw k) 3 1 _ ay rfl rfl) (by simp only[List.length_map,List.length_range,List.length_singleton];omega) uF ?_;intro v' w3 hown hbel hnil);go_roundg(P.length-(k+1));case measure=>have:=HG.out;omega
 case rel=>exact⟨k+1,ay,lu,⟨bY⟩,Lib.hid (by rw[List.range_succ];simpa using hown)⟩):p:=h
theorem qj{p:Prop}(h:p:=by have hmm:min (max (q:Int) 0) 0=0:=aa;have hmm2:min (q:Int) 0=0:=aa;go_wp2_with(go_at_call 332;refine(vD _ _ _ _).mono ?_;rintro e w1⟨rfl,rfl⟩);refine bodyPost_ret (results_tmp rfl _ _ _) rfl ?_;exact⟨[],_,rfl,Sl.nil _ _,ay,ay,fun _ a ha=>aa,bY⟩):p:=h
theorem ql{p:Prop}(h:p:=by have hkz:¬((P.length:Int)<(P.length:Int)):=aa;go_wp2_with(go_at_call 332;refine(vD _ _ _ _).mono ?_;rintro e w1⟨rfl,rfl⟩);refine bodyPost_ret (results_tmp rfl _ _ _) rfl ?_;exact⟨rfl,hB0.out.trans (hK.out.mono aF)⟩):p:=h
theorem vD(a:Option Addr)(cap:Nat)(f:Value)(w:World):Calls Tryz.prog 332 #[E a 0 cap,f] w fun e w'=>e= .returned (.tuple #[])∧w'=w:=by
 have H349:∀w,Calls Tryz.prog 349 #[E a 0 cap,Z,Z,f] w fun e w'=>e= .returned (.tuple #[])∧w'=w:=fun w=>by
  go_enter Tryz.func349,Tryz.ntmps349;go_wp2;go_loopg[8]0(fun gk s8 wr=>s8= .int .i64 1∧wr=w);case atStart=>exact⟨rfl,rfl⟩
  case round=>obtain⟨rfl,rfl⟩:=hrel;go_wp2;exact bodyPost_end (results_none rfl _ _ _) rfl ⟨rfl,rfl⟩
 have H338:∀w,Calls Tryz.prog 338 #[E a 0 cap,Z,f] w fun e w'=>e= .returned (.tuple #[])∧w'=w:=fun w=>by
  go_enter Tryz.func338,Tryz.ntmps338;go_wp2;go_loopg[7,8]0(fun gk s7 s8 wr=>s7= .int .i64 0∧s8= .int .i64 20∧wr=w);case atStart=>exact⟨rfl,rfl,rfl⟩
  case round=>
   obtain⟨rfl,rfl,rfl⟩:=hrel;go_wp2_with(go_at_call 349;refine(H349 _).mono ?_;rintro e w1⟨rfl,rfl⟩);go_loopg[6]0(fun gk s6 wx=>s6= .int .i64 20∧wx=w1);case atStart=>exact⟨rfl,rfl⟩
   case round=>obtain⟨rfl,rfl⟩:=hrel;go_wp2;exact bodyPost_end (results_none rfl _ _ _) rfl ⟨rfl,rfl⟩
 go_enter Tryz.func332,Tryz.ntmps332;go_wp2_with(go_at_call 338;refine(H338 _).mono ?_;rintro e w1⟨rfl,rfl⟩);exact bodyPost_end (results_none rfl _ _ _) rfl ⟨rfl,rfl⟩
theorem No(P:List Nat)(v:Value)(q:Nat)(w:World)(hs:Sl w v 10 (P.map aJ))(hq:q≤1000)(hl:P.length≤19):Calls Tryz.prog 321 #[v,I 1,q,J 1] w fun e w'=>∃(Gx:List Nat)(v':Value),e= .returned v'∧Sl w' v' 1 (Gx.map fw)∧Gx.length≤P.length∧(∀a∈Gx,a<P.length)∧(P.length≤q→∀a,a<P.length→a∈Gx)∧Below w.heap.size w w':=by
 obtain⟨a,cap,rfl,q1,q2,q3⟩:=hs;rw[List.length_map]at q1⊢;have HS:Hid (Sl w (E a P.length cap) 10 (P.map aJ)):=Lib.hid ⟨a,cap,ay,by simpa using q1,q2,q3⟩;have hB0:Hid (Below w.heap.size w (((w.alloc (.cells #[E a P.length cap] 55)).alloc (.cells #[I 1] 3)).alloc (.cells #[J 1] 25))):=Lib.hid (nO);have hz0:aV w (w.heap.size+3) 3 1 V []:=aV.nil _ _ _ _;go_enter Tryz.func321,Tryz.ntmps321;go_wp2;go_loopg[9,14]P.length(fun g s9 s14 wr=>∃k:Nat,s14= .int .i64 (k:Int)∧k+g=P.length∧aw (((w.alloc (.cells #[E a P.length cap] 55)).alloc (.cells #[I 1] 3)).alloc (.cells #[J 1] 25)) wr∧Hid (aV wr (w.heap.size+3) 3 1 s9 ((List.range k).map fw)));case atStart=>exact⟨0,rfl,aa,⟨Below.refl _ _⟩,Lib.hid (aV.nil _ _ _ _)⟩
 case round=>
  obtain⟨k,rfl,hg,hK,HO⟩:=hrel;have HG:=Lib.hid hg;obtain⟨x1,x2,x3,x4,x5,x6,x7,x8,x9,x10,y9⟩:=cZ hK.out;(try have zz:=zs w.heap.size wr.heap.size);have hws:=hK.out.size;simp at hws;by_cases hk:k<P.length;·
   rcases q3 with⟨_,q3⟩|⟨g,o,rfl,hg',q3⟩;·simp at q3;subst q3;simp at hk
   obtain⟨hE,e1,e2,hgr,hkz,n1⟩:=jo;unfold aJ at e2;clear q3 hg;go_upto_region 6 with(go_at_call 331;refine(J0 P[k] _).mono ?_;rintro e w1⟨rfl,rfl⟩);exact qi
  ·obtain rfl:k=P.length:=aa;have hkz:¬((P.length:Int)<(P.length:Int)):=aa;have hD:∀x∈List.range P.length,x<P.length:=fun x hx=>List.mem_range.1 hx;have hSr:=HS.out.below (hB0.out.trans (hK.out.mono aF));rcases yC HO.out with⟨rfl,hnil⟩|⟨gs,cs,R,rfl,g1,g2,hS,g3,g4⟩;·
    have h0:P.length=0:=by simpa using congrArg List.length hnil
    exact qj
   ·rw[List.length_range]at g3⊢;have hc1:wr.cell? ⟨w.heap.size,0,none⟩=some (.slice a P.length cap):=by rw[x6 _ _ aF];simp[go_sem]
    have hc2:wr.cell? ⟨w.heap.size+1,0,none⟩=some (.int .i64 1):=BU;have hc3:wr.cell? ⟨w.heap.size+1+1,0,none⟩=some (.int .u64 1):=BU;have hcm:∀W,ax gs wr W→∀i k:Nat,i<P.length→k<P.length→Calls Tryz.prog 333 #[I (i:Nat),I (k:Nat),H w.heap.size 0,H (w.heap.size+1) 0,H (w.heap.size+1+1) 0] W fun e w'=>e= .returned (I (uQ 1 (P.getD i 0) (P.getD k 0)))∧Below W.heap.size W w':=fun W hW i k hi hk=>by have:=pK P (E a P.length cap) 1 w.heap.size (w.heap.size+1) (w.heap.size+1+1) i k aa W (hSr.upto hW (fun e=>by have:=HS.out.lt e;omega)) uD uD uD (Pf) (Pg) (Ph) hi hk;simpa[List.getD_eq_getElem?_getD,hi,hk]using this
    have HL:=zC gs cs P.length w.heap.size (w.heap.size+1) (w.heap.size+1+1) (fun i k=>uQ 1 (P.getD i 0) (P.getD k 0)) (List.range P.length) R wr hD hcm hS g2 (by rw[List.length_range];exact hl);exact qh
theorem Nr(P:List Nat)(v:Value)(q:Nat)(w:World)(hs:Sl w v 10 (P.map aJ))(hq:q≤1000)(hl:P.length≤19):Calls Tryz.prog 321 #[v,I 4,q,J 1] w fun e w'=>∃(Gx:List Nat)(v':Value),e= .returned v'∧Sl w' v' 1 (Gx.map fw)∧Gx.length≤P.length∧(∀a∈Gx,a<P.length)∧(P.length≤q→∀a,a<P.length→a∈Gx)∧Below w.heap.size w w':=by
 obtain⟨a,cap,rfl,q1,q2,q3⟩:=hs;rw[List.length_map]at q1⊢;have HS:Hid (Sl w (E a P.length cap) 10 (P.map aJ)):=Lib.hid ⟨a,cap,ay,by simpa using q1,q2,q3⟩;have hB0:Hid (Below w.heap.size w (((w.alloc (.cells #[E a P.length cap] 55)).alloc (.cells #[I 4] 3)).alloc (.cells #[J 1] 25))):=Lib.hid (nO);have hz0:aV w (w.heap.size+3) 3 1 V []:=aV.nil _ _ _ _;go_enter Tryz.func321,Tryz.ntmps321;go_wp2;go_loopg[9,14]P.length(fun g s9 s14 wr=>∃k:Nat,s14= .int .i64 (k:Int)∧k+g=P.length∧aw (((w.alloc (.cells #[E a P.length cap] 55)).alloc (.cells #[I 4] 3)).alloc (.cells #[J 1] 25)) wr∧Hid (aV wr (w.heap.size+3) 3 1 s9 ((List.range k).map fw)));case atStart=>exact⟨0,rfl,aa,⟨Below.refl _ _⟩,Lib.hid (aV.nil _ _ _ _)⟩
 case round=>
  obtain⟨k,rfl,hg,hK,HO⟩:=hrel;have HG:=Lib.hid hg;obtain⟨x1,x2,x3,x4,x5,x6,x7,x8,x9,x10,y9⟩:=cZ hK.out;(try have zz:=zs w.heap.size wr.heap.size);have hws:=hK.out.size;simp at hws;by_cases hk:k<P.length;·
   rcases q3 with⟨_,q3⟩|⟨g,o,rfl,hg',q3⟩;·simp at q3;subst q3;simp at hk
   obtain⟨hE,e1,e2,hgr,hkz,n1⟩:=jo;unfold aJ at e2;clear q3 hg;go_upto_region 6 with(go_at_call 331;refine(J3 P[k] _).mono ?_;rintro e w1⟨rfl,rfl⟩);exact qi
  ·obtain rfl:k=P.length:=aa;have hkz:¬((P.length:Int)<(P.length:Int)):=aa;have hD:∀x∈List.range P.length,x<P.length:=fun x hx=>List.mem_range.1 hx;have hSr:=HS.out.below (hB0.out.trans (hK.out.mono aF));rcases yC HO.out with⟨rfl,hnil⟩|⟨gs,cs,R,rfl,g1,g2,hS,g3,g4⟩;·
    have h0:P.length=0:=by simpa using congrArg List.length hnil
    exact qj
   ·rw[List.length_range]at g3⊢;have hc1:wr.cell? ⟨w.heap.size,0,none⟩=some (.slice a P.length cap):=by rw[x6 _ _ aF];simp[go_sem]
    have hc2:wr.cell? ⟨w.heap.size+1,0,none⟩=some (.int .i64 4):=BU;have hc3:wr.cell? ⟨w.heap.size+1+1,0,none⟩=some (.int .u64 1):=BU;have hcm:∀W,ax gs wr W→∀i k:Nat,i<P.length→k<P.length→Calls Tryz.prog 333 #[I (i:Nat),I (k:Nat),H w.heap.size 0,H (w.heap.size+1) 0,H (w.heap.size+1+1) 0] W fun e w'=>e= .returned (I (uQ 4 (P.getD i 0) (P.getD k 0)))∧Below W.heap.size W w':=fun W hW i k hi hk=>by have:=pK P (E a P.length cap) 4 w.heap.size (w.heap.size+1) (w.heap.size+1+1) i k aa W (hSr.upto hW (fun e=>by have:=HS.out.lt e;omega)) uD uD uD (Pf) (Pg) (Ph) hi hk;simpa[List.getD_eq_getElem?_getD,hi,hk]using this
    have HL:=zC gs cs P.length w.heap.size (w.heap.size+1) (w.heap.size+1+1) (fun i k=>uQ 4 (P.getD i 0) (P.getD k 0)) (List.range P.length) R wr hD hcm hS g2 (by rw[List.length_range];exact hl);exact qh
theorem Np(P:List Nat)(v:Value)(q:Nat)(w:World)(hs:Sl w v 10 (P.map aJ))(hq:q≤1000)(hl:P.length≤19):Calls Tryz.prog 321 #[v,I 2,q,J 1] w fun e w'=>e= .returned V∧Below w.heap.size w w':=by
 obtain⟨a,cap,rfl,q1,q2,q3⟩:=hs;rw[List.length_map]at q1⊢;have hB0:Hid (Below w.heap.size w (((w.alloc (.cells #[E a P.length cap] 55)).alloc (.cells #[I 2] 3)).alloc (.cells #[J 1] 25))):=Lib.hid (nO);have hmm2:min (q:Int) 0=0:=aa;go_enter Tryz.func321,Tryz.ntmps321;go_wp2;go_loopg[9,14]P.length(fun g s9 s14 wr=>∃k:Nat,s9= .slice none 0 0∧s14= .int .i64 (k:Int)∧k+g=P.length∧aw (((w.alloc (.cells #[E a P.length cap] 55)).alloc (.cells #[I 2] 3)).alloc (.cells #[J 1] 25)) wr);case atStart=>exact⟨0,rfl,rfl,aa,⟨Below.refl _ _⟩⟩
 case round=>
  obtain⟨k,rfl,rfl,hg,hK⟩:=hrel;have HG:=Lib.hid hg;obtain⟨x1,x2,x3,x4,x5,x6,x7,x8,x9,x10,y9⟩:=cZ hK.out;(try have zz:=zs w.heap.size wr.heap.size);have hws:=hK.out.size;simp at hws;by_cases hk:k<P.length;·
   rcases q3 with⟨_,q3⟩|⟨g,o,rfl,hg',q3⟩;·simp at q3;subst q3;simp at hk
   obtain⟨hE,e1,e2,hgr,hkz,n1⟩:=jo;unfold aJ at e2;clear q3 hg;go_wp2_with(go_at_call 331;refine(J1 P[k] _).mono ?_;rintro e w1⟨rfl,rfl⟩);go_roundg(P.length-(k+1));case measure=>have:=HG.out;omega
   case rel=>exact⟨k+1,rfl,ay,lu,⟨bY⟩⟩
  ·obtain rfl:k=P.length:=aa;exact ql
theorem Nq(P:List Nat)(v:Value)(q:Nat)(w:World)(hs:Sl w v 10 (P.map aJ))(hq:q≤1000)(hl:P.length≤19):Calls Tryz.prog 321 #[v,I 3,q,J 1] w fun e w'=>e= .returned V∧Below w.heap.size w w':=by
 obtain⟨a,cap,rfl,q1,q2,q3⟩:=hs;rw[List.length_map]at q1⊢;have hB0:Hid (Below w.heap.size w (((w.alloc (.cells #[E a P.length cap] 55)).alloc (.cells #[I 3] 3)).alloc (.cells #[J 1] 25))):=Lib.hid (nO);have hmm2:min (q:Int) 0=0:=aa;go_enter Tryz.func321,Tryz.ntmps321;go_wp2;go_loopg[9,14]P.length(fun g s9 s14 wr=>∃k:Nat,s9= .slice none 0 0∧s14= .int .i64 (k:Int)∧k+g=P.length∧aw (((w.alloc (.cells #[E a P.length cap] 55)).alloc (.cells #[I 3] 3)).alloc (.cells #[J 1] 25)) wr);case atStart=>exact⟨0,rfl,rfl,aa,⟨Below.refl _ _⟩⟩
 case round=>
  obtain⟨k,rfl,rfl,hg,hK⟩:=hrel;have HG:=Lib.hid hg;obtain⟨x1,x2,x3,x4,x5,x6,x7,x8,x9,x10,y9⟩:=cZ hK.out;(try have zz:=zs w.heap.size wr.heap.size);have hws:=hK.out.size;simp at hws;by_cases hk:k<P.length;·
   rcases q3 with⟨_,q3⟩|⟨g,o,rfl,hg',q3⟩;·simp at q3;subst q3;simp at hk
   obtain⟨hE,e1,e2,hgr,hkz,n1⟩:=jo;unfold aJ at e2;clear q3 hg;go_wp2_with(go_at_call 331;refine(J2 P[k] _).mono ?_;rintro e w1⟨rfl,rfl⟩);go_roundg(P.length-(k+1));case measure=>have:=HG.out;omega
   case rel=>exact⟨k+1,rfl,ay,lu,⟨bY⟩⟩
  ·obtain rfl:k=P.length:=aa;exact ql
end
section
attribute[local go_sem↓]aZ aW
attribute[local go_sem]dC bq
theorem pP{w w':World}(h:w.grownBy w' none):Below w.heap.size w w':=(Below.refl w.heap.size w).grown h (Nat.le_refl _) (fun q hq=>by cases hq)
theorem Ba{W:World}{a:Option Addr}{cap:Nat}{A:List Nat}(h:Sl W (E a (A.map fw).length cap) 1 (A.map fw)){k:Nat}(hk:k<A.length):∃g o,a=some ⟨g,o,none⟩∧g<W.heap.size∧W.cell? ⟨g,o+k,none⟩=some (.int .i64 (A[k]:Nat)):=by
 obtain⟨a',c',e,h1,h2,h3⟩:=h;simp only[Value.slice.injEq]at e;obtain⟨rfl,_,rfl⟩:=e;rcases h3 with⟨_,h3⟩|⟨g,o,rfl,hg,h3⟩;·simp at h3;subst h3;simp at hk
 ·refine⟨g,o,rfl,hg,?_⟩;have:=(h3 k (fw A[k]) nS).cell (k:=0) (v:=I (A[k]:Nat)) rfl;simpa using this
def gC(P A:List Nat):List Nat:=A.map fun a=>P.getD a 0
theorem oH(P A:List Nat)(v u:Value)(w:World)(hs:Sl w v 10 (P.map aJ))(hu:Sl w u 1 (A.map fw))(hA:∀a∈A,a<P.length)(hl:A.length≤1000):Calls Tryz.prog 322 #[v,u] w fun e w'=>∃v',e= .returned v'∧aV w' w.heap.size 75 10 v' ((gC P A).map aJ)∧Below w.heap.size w w':=by
 obtain⟨a,cap,rfl,q1,q2,q3⟩:=hs;obtain⟨b,cap2,rfl,p1,p2,p3⟩:=hu;have HU:Hid (Sl w (E b (A.map fw).length cap2) 1 (A.map fw)):=Lib.hid ⟨b,cap2,rfl,p1,p2,p3⟩;rw[List.length_map]at q1 p1⊢;rw[List.length_map];obtain⟨i0,hi,hz0,hz1,hz2⟩:=info_parts jf;obtain⟨wm,hrun,r1,r2⟩:=run_make_own (P:=Tryz.prog) w w.heap.size 55 75 i0 _ 10 Tryz.underlying55 hi hz0 hz1 .i64 .i64 A.length (by rw[hz2];omega) fZ (Nat.le_refl _);have hbm:=pP r2;have hO0:aV wm w.heap.size 75 10 (G w.heap.size 0 A.length) []:=⟨by simpa[flat]using r1,ay⟩;have HO0:=Lib.hid hO0;have HM:=Lib.hid hbm;have hn0:0≤(A.length:Int):=aa;clear r1 r2 hbm hO0 p3;go_enter Tryz.func322,Tryz.ntmps322;go_wp2;clear hrun;go_loopg[5,13]A.length(fun g s5 s13 wr=>∃k:Nat,s13= .int .i64 (k:Int)∧k+g=A.length∧aw w wr∧Hid (aV wr w.heap.size 75 10 s5 ((gC P (A.take k)).map aJ)));case atStart=>exact⟨0,rfl,aa,⟨HM.out⟩,HO0⟩
 case round=>
  obtain⟨k,rfl,hg,hK,HO⟩:=hrel;have HG:=Lib.hid hg;have hws:=hK.out.size;by_cases hk:k<A.length;·
   obtain⟨gb,ob,rfl,hgb,hcb⟩:=Ba HU.out hk;have hak:A[k]<P.length:=hA _ (List.getElem_mem hk);have hcb':wr.cell? ⟨gb,ob+k,none⟩=some (.int .i64 (A[k]:Nat)):=by rw[hK.out.cell (p:=⟨gb,ob+k,none⟩) hgb];exact hcb
   rcases q3 with⟨_,q3⟩|⟨g,o,rfl,hg',q3⟩;·simp at q3;subst q3;simp at hak
   have hE:=(q3 A[k] (aJ P[A[k]]) (by simp[hak])).block (hK.out.block g hg');have e1:=hE.is;have e2:=hE.of;have hgr:=hE.lt;have hkz:(k:Int)<(A.length:Int):=aa;have n1:0≤(k:Int):=aa;have haz:((A[k]:Nat):Int)<(P.length:Int):=aa;have n2:0≤((A[k]:Nat):Int):=aa;have hpk:gC P (A.take (k+1))=gC P (A.take k)++[P[A[k]]]:=by unfold gC;rw[List.take_succ_eq_append_getElem hk,List.map_append];congr 1;simp[hak]
   have hpl:(gC P (A.take k)).length≤1000:=by simp[gC];omega
   unfold aJ at e2;clear q3 hg;generalize P[A[k]]=x at*;generalize A[k]=ak at*;go_wp2_with(at_builtin;refine pD rfl (.tmp 17) (.tmp 22) rfl w.heap.size _ ((gC P (A.take k)).map aJ) [aJ x] rfl (HO.out.below (nO)) _ _ _ rfl (cY _ (aJ x) 75 10 _ ay rfl rfl) (by simp only[List.length_map,List.length_singleton];omega) (by have:=hK.out.size;simp<;>omega) ?_;intro v' w3 hown hbel hnil);go_roundg(A.length-(k+1));case measure=>have:=HG.out;omega
   case rel=>exact⟨k+1,ay,lu,⟨bY⟩,Lib.hid (by rw[hpk];simpa using hown)⟩
  ·obtain rfl:k=A.length:=aa;have hkz:¬((A.length:Int)<(A.length:Int)):=aa;go_wp2;refine bodyPost_ret (results_tmp rfl _ _ _) rfl ?_;exact⟨_,rfl,by have:=HO.out;rwa[List.take_length]at this,hK.out⟩
structure gP(W:World)(g:Nat)(L:List Value):Prop where
 own:bc W g=true
 row:aH W g=L.toArray
theorem gP.cell{W:World}{g:Nat}{L:List Value}(h:gP W g L){i:Nat}{v:Value}(hi:L[i]? =some v):W.cell? ⟨g,i,none⟩=some v:=by rw[gv _ h.own,h.row];simpa using hi
theorem gP.frozen{W:World}{g:Nat}{L:List Value}(h:gP W g L)(i:Nat):W.frozen? ⟨g,i,none⟩=false:=iR _ h.own
theorem gP.keep{W W':World}{g:Nat}{L:List Value}(h:gP W g L)(hg:g<W.heap.size)(k:Below W.heap.size W W'):gP W' g L:=⟨FY,F2⟩
theorem gP.below{B:Nat}{W W':World}{g:Nat}{L:List Value}(h:gP W g L)(hg:g<B)(k:Below B W W'):gP W' g L:=⟨FY,F2⟩
theorem gP.set{W:World}{g:Nat}{L:List Value}(h:gP W g L)(i:Nat)(v:Value):gP (W.setCell ⟨g,i,none⟩ v) g (L.set i v):=by rw[oE _ _ h.own];refine⟨by rw[iX];exact h.own,?_⟩;rw[fa _ h.own,h.row];simp only[List.setIfInBounds_toArray]
theorem gP.made(w:World)(v:Value)(n:Nat)(e:TypeId):gP (w.alloc (.cells (madeCells #[v] n) e)) w.heap.size (List.replicate n v):=by
 refine⟨lH w _ e _ rfl,?_⟩;rw[iq w _ e _ rfl];apply Array.ext;·simp[madeCells]
 ·intro i h1 h2;simp[madeCells,Nat.mod_one]
theorem Ov{W:World}{g n cap:Nat}{A:List Nat}(h:gP W g (A.map Hc))(hn:n=A.length)(hg:g<W.heap.size)(h1:n≤cap)(h2:cap≤maxLen):Sl W (G g n cap) 1 (A.map fw):=by subst hn;have:=C2 (W:=W) (g:=g) (m:=A.length) (cap:=cap) (D:=A) (R:=[]) ⟨h.own,by rw[h.row];simp⟩ aa hg h1 h2;rwa[List.take_length]at this
def fI:List Nat→List Nat→Nat→List Nat
 |[],_,_=>[]
 |a::A,Gx,k=>if k∈Gx then fI A Gx (k+1)else a::fI A Gx (k+1)
theorem jR:∀(A Gx:List Nat)(k:Nat),∀x∈fI A Gx k,x∈A
 |[],_,_,x,h=>by simp[fI]at h
 |a::A,Gx,k,x,h=>by
  unfold fI at h;split at h;·exact List.mem_cons_of_mem _ (jR A Gx (k+1) x h)
  ·rcases List.mem_cons.1 h with rfl|h;·simp
   ·exact List.mem_cons_of_mem _ (jR A Gx (k+1) x h)
theorem uW:∀(A Gx:List Nat)(k:Nat),(∀j,j<A.length→k+j∈Gx)→fI A Gx k=[]
 |[],_,_,_=>rfl
 |a::A,Gx,k,h=>by unfold fI;rw[if_pos (by simpa using h 0 ay)];exact uW A Gx (k+1) fun j hj=>by have:=h (j+1) lx;rwa[show k+1+j=k+(j+1)by omega]
theorem jQ:∀(A Gx:List Nat)(k:Nat),(fI A Gx k).length≤A.length
 |[],_,_=>by simp[fI]
 |a::A,Gx,k=>by unfold fI;have:=jQ A Gx (k+1);split<;>simp<;>omega
theorem uX:∀(A Gx:List Nat)(k a:Nat),fI (A++[a]) Gx k=fI A Gx k++if k+A.length∈Gx then[]else[a]
 |[],Gx,k,a=>by simp[fI]
 |b::A,Gx,k,a=>by simp only[List.cons_append,fI,uX A Gx (k+1) a,List.length_cons,show k+1+A.length=k+(A.length+1)by omega];split<;>simp
theorem NQ:(Tryz.prog.info? 4).map (fun i=>(i.zero,i.size,i.bytes))=some (some (.bool false),1,1):=af
theorem NP:(Tryz.prog.info? 3).map (fun i=>(i.zero,i.size,i.bytes))=some (some (.int .i64 0),1,8):=af
def iw(n:Nat)(S:List Nat):List Value:=(List.range n).map fun j=>.bool (decide (j∈S))
theorem DU{n:Nat}{S:List Nat}{k:Nat}(hk:k<n):(iw n S).set k Y=iw n (S++[k]):=by
 unfold iw;apply List.ext_getElem?;intro j;rw[List.getElem?_set];by_cases e:k=j;·subst e;simp[hk]
 ·rw[if_neg e];by_cases hj:j<n;·simp[hj,Ne.symm e]
  ·simp[hj]
end
end Go.Proofs.YtnncjbkepakgpaaGreat
