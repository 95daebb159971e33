/- BITS OF ADDRESSES; who is in a subnet. HOW MANY FIRST BITS two subnets have in common; who is in a subnet. HOW MANY FIRST BITS two subnets have in common; who is in a subnet. WHO IS IN A SUBNET. SUBNETS IN A TREE: how it stands in memory; a subnet more. A NODE at which two part. -/
import Derived.Test.YtnncjbkepakgpaaGreatA17
import Derived.Test.YtnncjbkepakgpaaGreatA16
namespace Go.Proofs.YtnncjbkepakgpaaGreat
open Go.RowKit Qv
set_option linter.unusedVariables false
set_option linter.unusedSimpArgs false
set_option maxRecDepth 100000
set_option maxHeartbeats 1000000
section
attribute[local go_sem high]ah
attribute[local simp high]ah
theorem tE{p:Prop}(h:p:=by go_enter Tryz.func244,Tryz.ntmps244;go_wp2_with fail;have HB:=Lib.hid (dY:Bx (w.alloc (.cells (#[six,J hi,J lo]) 34)) w.heap.size [(34,3,#[six,J hi,J lo])]);have d0:Below w.heap.size w (w.alloc (.cells (#[six,J hi,J lo]) 34)):=bY;have sWB:w.heap.size+1≤(w.alloc (.cells (#[six,J hi,J lo]) 34)).heap.size:=ay;generalize(w.alloc (.cells (#[six,J hi,J lo]) 34))=WB at*;have fHB:=HB.out;simp only[Bx,Bo]at fHB;refine(HBt.out _).mono ?_;rintro e w1⟨rfl,hb⟩;have HB1:=cD hb HB;have d1:=dE d0 hb;have sw1:=hb.size;have fHB1:=HB1.out;simp only[Bx,Bo]at fHB1;clear hb fHB;go_wp2;go_ret;exact⟨rfl,d1⟩):p:=h
theorem O4{x:Int}(h:U6 x):wrap64 (bits .and .u64 x 1)=0∨wrap64 (bits .and .u64 x 1)=1:=by
 obtain⟨k,rfl⟩:=Int.eq_ofNat_of_zero_le h.1;rw[u64_and _ _ h.1 h.2 az az];show wrap64 ((k&&&1:Nat):Int)=0∨wrap64 ((k&&&1:Nat):Int)=1;rw[nat_mask1];rcases Nat.mod_two_eq_zero_or_one k with e|e<;>rw[e];·exact .inl (by unfold wrap64;omega)
 ·exact .inr (by unfold wrap64;omega)
theorem N7(n:Nat):(1:Int)≤2^n:=by have:=Nat.one_le_two_pow (n:=n);exact_mod_cast this
theorem FQ(six:Bool)(hi lo i:Int)(hh:U6 hi)(hl:U6 lo)(hi64:-9000000000000000000≤i∧i≤9000000000000000000):∃r:Int,(r=0∨r=1)∧∀w:World,Calls Tryz.prog 244 #[.agg #[six,J hi,J lo],i] w fun e w'=>e= .returned r∧Below w.heap.size w w':=by
 have HBt:=Lib.hid (fun(W:World)=>ki six hi lo W);have hb:gq six=32∨gq six=128:=by cases six<;>simp[gq]
 generalize gq six=bt at*;by_cases c1:i<0;·refine⟨0,.inl rfl,fun w=>?_⟩;have q1:(i<0)=True:=eq_true c1;clear c1;exact tE
 have q1:(i<0)=False:=eq_false c1;by_cases c2:bt≤i;·refine⟨0,.inl rfl,fun w=>?_⟩;have q2:(bt≤i)=True:=eq_true c2;clear c1 c2;exact tE
 have q2:(bt≤i)=False:=eq_false c2;have e1:IntKind.i64.wrap (bt-1)=bt-1:=eD;have e2:IntKind.i64.wrap (bt-1-i)=bt-1-i:=eD;have hk:0≤bt-1-i∧bt-1-i≤127:=aa;by_cases c3:64≤bt-1-i;·
  have q3:(64≤bt-1-i)=True:=eq_true c3;have e3:IntKind.i64.wrap (bt-1-i-64)=bt-1-i-64:=eD;have q5:¬(bt-1-i-64<0):=aa;refine⟨wrap64 (bits .and .u64 (hi/2^(bt-1-i-64).toNat) 1),?h,fun w=>?k⟩;case k=>clear c1 c2 c3;exact tE
  case h=>exact O4 (Nh _ hh (N7 _))
 ·have q3:(64≤bt-1-i)=False:=eq_false c3;have q5:¬(bt-1-i<0):=aa;have q6:¬(bt-1<i):=aa;have q7:0≤bt-1-i:=aa;refine⟨wrap64 (bits .and .u64 (lo/2^min (bt-1-i).toNat 64) 1),?h,fun w=>?k⟩;case k=>clear c1 c2 c3;go_enter Tryz.func244,Tryz.ntmps244;go_wp2_with fail;refine en 1 [(34,3,_)] ?_;intro WB HB d0 sWB fHB;simp only[Bx,Bo]at fHB;refine(HBt.out _).mono ?_;rintro e w1⟨rfl,hb⟩;have HB1:=cD hb HB;have d1:=dE d0 hb;have sw1:=hb.size;have fHB1:=HB1.out;simp only[Bx,Bo]at fHB1;clear hb fHB;go_wp2;go_ret;exact⟨rfl,d1⟩
  case h=>exact O4 (Nh _ hl (N7 _))
def Rg(i:Int):Prop:=-9000000000000000000≤i∧i≤9000000000000000000
open Classical in noncomputable def xJ(six:Bool)(hi lo i:Int):Int:=if h:U6 hi∧U6 lo∧Rg i then Classical.choose (FQ six hi lo i h.1 h.2.1 h.2.2)else 0
theorem qH(six:Bool)(hi lo i:Int)(hh:U6 hi)(hl:U6 lo)(hi64:Rg i):(xJ six hi lo i=0∨xJ six hi lo i=1)∧∀w:World,Calls Tryz.prog 244 #[.agg #[six,J hi,J lo],i] w fun e w'=>e= .returned (I (xJ six hi lo i))∧Below w.heap.size w w':=by have h:U6 hi∧U6 lo∧Rg i:=⟨hh,hl,hi64⟩;unfold xJ;rw[dif_pos h];exact Classical.choose_spec (FQ six hi lo i h.1 h.2.1 h.2.2)
theorem KN(six:Bool)(hi lo b i:Int)(hh:U6 hi)(hl:U6 lo)(hi64:Rg i)(w:World):Calls Tryz.prog 278 #[.agg #[six,J hi,J lo,b],i] w fun e w'=>e= .returned (I (xJ six hi lo i))∧Below w.heap.size w w':=by have HM:=Lib.hid (fun(W:World)=>(qH six hi lo i hh hl hi64).2 W);generalize xJ six hi lo i=r at*;go_enter Tryz.func278,Tryz.ntmps278;go_wp2_with fail;refine en 1 [(39,4,_)] ?_;intro WB HB d0 sWB fHB;simp only[Bx,Bo]at fHB;refine(HM.out _).mono ?_;rintro e w1⟨rfl,hb⟩;have HB1:=cD hb HB;have d1:=dE d0 hb;have sw1:=hb.size;have fHB1:=HB1.out;simp only[Bx,Bo]at fHB1;clear hb fHB;go_wp2;go_ret;exact⟨rfl,d1⟩
end
section
attribute[local go_sem high]ah
attribute[local simp high]ah
theorem gZ{p:Prop}(h:p:=by rw[e];clear e;go_enter Tryz.func330,Tryz.ntmps330;go_wp2;go_ret;exact⟨rfl,rfl⟩):p:=h
def dG:ByteArray:=⟨List.toArray [0,1,2,2,3,3,3,3,4,4,4,4,4,4,4,4,5,5,5,5,5,5,5,5,5,5,5,5,5,5,5,5,6,6,6,6,6,6,6,6,6,6,6,6,6,6,6,6,6,6,6,6,6,6,6,6,6,6,6,6,6,6,6,6,7,7,7,7,7,7,7,7,7,7,7,7,7,7,7,7,7,7,7,7,7,7,7,7,7,7,7,7,7,7,7,7,7,7,7,7,7,7,7,7,7,7,7,7,7,7,7,7,7,7,7,7,7,7,7,7,7,7,7,7,7,7,7,7,8,8,8,8,8,8,8,8,8,8,8,8,8,8,8,8,8,8,8,8,8,8,8,8,8,8,8,8,8,8,8,8,8,8,8,8,8,8,8,8,8,8,8,8,8,8,8,8,8,8,8,8,8,8,8,8,8,8,8,8,8,8,8,8,8,8,8,8,8,8,8,8,8,8,8,8,8,8,8,8,8,8,8,8,8,8,8,8,8,8,8,8,8,8,8,8,8,8,8,8,8,8,8,8,8,8,8,8,8,8,8,8,8,8,8,8,8,8,8,8,8,8,8,8,8,8,8,8]⟩
theorem jj:dG.size=256:=af
def iL(k:Nat):Int:=if h:k<256 then((dG[k]'(by rw[jj];exact h)).toNat:Int)else 0
theorem yF(k:Nat)(h:k<dG.size):((dG[k]'h).toNat:Int)=iL k:=by unfold iL;rw[dif_pos (by rw[←jj];exact h)]
theorem fN(k:Nat):0≤iL k∧iL k<256:=by
 unfold iL;split;·rename_i h;have:=UInt8.toNat_lt (dG[k]'(by rw[jj];exact h));omega
 ·omega
def fY(x:Int):Int:=if 4294967296≤x then(if 65536≤x/4294967296 then(if 256≤x/4294967296/65536 then 56+iL (x/4294967296/65536/256).toNat else 48+iL (x/4294967296/65536).toNat)else(if 256≤x/4294967296 then 40+iL (x/4294967296/256).toNat else 32+iL (x/4294967296).toNat))else(if 65536≤x then(if 256≤x/65536 then 24+iL (x/65536/256).toNat else 16+iL (x/65536).toNat)else(if 256≤x then 8+iL (x/256).toNat else iL x.toNat))
theorem ot(x:Int):0≤fY x∧fY x<400:=by
 unfold fY;repeat' split
 all_goals have h1:=fN (x/4294967296/65536/256).toNat;have h2:=fN (x/4294967296/65536).toNat;have h3:=fN (x/4294967296/256).toNat;have h4:=fN (x/4294967296).toNat;have h5:=fN (x/65536/256).toNat;have h6:=fN (x/65536).toNat;have h7:=fN (x/256).toNat;have h8:=fN x.toNat;omega
theorem i4(a:Int)(k:Nat)(h:k<dG.size)(ha:0≤a∧a≤100):wrap64 (a+wrap64 ((dG[k]'h).toNat:Int))=a+iL k:=by rw[yF k h];have:=fN k;unfold wrap64;omega
theorem E8(k:Nat)(h:k<dG.size):wrap64 (wrap64 ((dG[k]'h).toNat:Int))=iL k:=by rw[yF k h];have:=fN k;unfold wrap64;omega
theorem zr{a b:Int}(h:a=b):Ending.returned a=Ending.returned b:=by rw[h]
theorem NT(x:Int)(hx:U6 x)(w:World):Calls Tryz.prog 330 #[J x] w fun e w'=>e= .returned (I (fY x))∧w=w':=by
 have h0:0≤x:=hx.1;have h1:x<18446744073709551616:=hx.2;by_cases c1:4294967296≤x;·
  by_cases c2:65536≤x/4294967296;·
   by_cases c3:256≤x/4294967296/65536;·
    have hk:(x/4294967296/65536/256).toNat<dG.size:=pH;have e:fY x=wrap64 (56+wrap64 ((dG[(x/4294967296/65536/256).toNat]'hk).toNat:Int)):=by
     refine Eq.trans ?_ (i4 56 _ hk az).symm;unfold fY;rw[if_pos c1];rw[if_pos c2];rw[if_pos c3];try rfl
     skip
    exact gZ
   ·have hk:(x/4294967296/65536).toNat<dG.size:=pH;have e:fY x=wrap64 (48+wrap64 ((dG[(x/4294967296/65536).toNat]'hk).toNat:Int)):=by
     refine Eq.trans ?_ (i4 48 _ hk az).symm;unfold fY;rw[if_pos c1];rw[if_pos c2];rw[if_neg c3];try rfl
     skip
    exact gZ
  ·by_cases c3:256≤x/4294967296;·
    have hk:(x/4294967296/256).toNat<dG.size:=pH;have e:fY x=wrap64 (40+wrap64 ((dG[(x/4294967296/256).toNat]'hk).toNat:Int)):=by
     refine Eq.trans ?_ (i4 40 _ hk az).symm;unfold fY;rw[if_pos c1];rw[if_neg c2];rw[if_pos c3];try rfl
     skip
    exact gZ
   ·have hk:(x/4294967296).toNat<dG.size:=pH;have e:fY x=wrap64 (32+wrap64 ((dG[(x/4294967296).toNat]'hk).toNat:Int)):=by
     refine Eq.trans ?_ (i4 32 _ hk az).symm;unfold fY;rw[if_pos c1];rw[if_neg c2];rw[if_neg c3];try rfl
     skip
    exact gZ
 ·by_cases c2:65536≤x;·
   by_cases c3:256≤x/65536;·
    have hk:(x/65536/256).toNat<dG.size:=pH;have e:fY x=wrap64 (24+wrap64 ((dG[(x/65536/256).toNat]'hk).toNat:Int)):=by
     refine Eq.trans ?_ (i4 24 _ hk az).symm;unfold fY;rw[if_neg c1];rw[if_pos c2];rw[if_pos c3];try rfl
     skip
    exact gZ
   ·have hk:(x/65536).toNat<dG.size:=pH;have e:fY x=wrap64 (16+wrap64 ((dG[(x/65536).toNat]'hk).toNat:Int)):=by
     refine Eq.trans ?_ (i4 16 _ hk az).symm;unfold fY;rw[if_neg c1];rw[if_pos c2];rw[if_neg c3];try rfl
     skip
    exact gZ
  ·by_cases c3:256≤x;·
    have hk:(x/256).toNat<dG.size:=pH;have e:fY x=wrap64 (8+wrap64 ((dG[(x/256).toNat]'hk).toNat:Int)):=by
     refine Eq.trans ?_ (i4 8 _ hk az).symm;unfold fY;rw[if_neg c1];rw[if_neg c2];rw[if_pos c3];try rfl
     skip
    exact gZ
   ·have hk:(x).toNat<dG.size:=pH;have e:fY x=wrap64 (wrap64 ((dG[(x).toNat]'hk).toNat:Int)):=by
     refine Eq.trans ?_ (E8 _ hk).symm;unfold fY;rw[if_neg c1];rw[if_neg c2];rw[if_neg c3];try rfl
     try simp
    exact gZ
end
section
attribute[local go_sem high]ah
attribute[local simp high]ah
theorem Mh(x:Int)(hx:U6 x)(w:World):Calls Tryz.prog 318 #[J x] w fun e w'=>e= .returned (I (64-fY x))∧w=w':=by have hb:=ot x;have e1:IntKind.i64.wrap (64-fY x)=64-fY x:=eD;go_enter Tryz.func318,Tryz.ntmps318;go_wp2_with(go_at_call 330;refine(NT x hx _).mono ?_;rintro e w1⟨rfl,rfl⟩);go_ret;exact⟨rfl,rfl⟩
theorem Qg(x y:Int):U6 (bits .xor .u64 x y):=tK _
def JW(s1:Bool)(h1 l1 b1 h2 l2 b2:Int):Int:=min ((if bits .xor .u64 h1 h2=0 then 64+(64-fY (bits .xor .u64 l1 l2))else 64-fY (bits .xor .u64 h1 h2))-(if s1=true then 0 else 96)) (min b1 b2)
theorem Nd(s1:Bool)(h1 l1 b1:Int)(s2:Bool)(h2 l2 b2:Int)(r1:0≤b1∧b1≤128)(r2:0≤b2∧b2≤128)(w:World):Calls Tryz.prog 300 #[.agg #[s1,J h1,J l1,b1],.agg #[s2,J h2,J l2,b2]] w fun e w'=>e= .returned (I (JW s1 h1 l1 b1 h2 l2 b2))∧Below w.heap.size w w':=by
 unfold JW;have hxU:=Qg h1 h2;have hyU:=Qg l1 l2;generalize hX:bits .xor .u64 h1 h2=X at*;generalize hY:bits .xor .u64 l1 l2=Yx at*;have hz:=Lib.hid (And.intro hxU hyU);have g1:=ot X;have g2:=ot Yx;have e1:IntKind.i64.wrap (64+(64-fY Yx))=64+(64-fY Yx):=eD;have e2:IntKind.i64.wrap (64+(64-fY Yx)-96)=64+(64-fY Yx)-96:=eD;have e3:IntKind.i64.wrap (64-fY X-96)=64-fY X-96:=eD;by_cases c:X=0;all_goals
  first|rw[if_pos c]|rw[if_neg c]
  first|subst c|have q1:(X==0)=false:=beq_eq_false_iff_ne.2 c
  cases s1;·
   have HBt:=Lib.hid (fun(W:World)=>show Calls Tryz.prog 179 #[.agg #[F,J h1,J l1]] W fun e w'=>e= .returned (I 32)∧Below W.heap.size W w' from ki false h1 l1 W);simp only[Bool.false_eq_true,if_false];go_enter Tryz.func300,Tryz.ntmps300;go_upto_region 2 with(fail);refine jg 2 [(39,4,_),(39,4,_)] ?_;intro WB HB d0 sWB fHB;simp only[Bx,Bo]at fHB;have HF:=i8 HB;refine cQ (aw WB) [0,1,2,3,4,5,6,7,8,9,10,11,12,13,14,15] 0 ?_;iterate 16 refine pO ?_
   refine pE ?_;refine cU ?_;go_wp2_with(first|(go_at_call 318;refine(Mh _ (by first|exact hz.out.1|exact hz.out.2) _).mono ?_;rintro e w3⟨rfl,rfl⟩)|fail);refine(HBt.out _).mono ?_;rintro e w4⟨rfl,hb⟩;have k4:=aj hb (cb:Below WB.heap.size WB _) (by first|exact Nat.le_refl _|omega|(simp;done));go_wp2;go_ret;exact⟨rfl,d0.trans (k4.mono aa)⟩
  ·simp only[if_true,Int.sub_zero];go_enter Tryz.func300,Tryz.ntmps300;go_upto_region 2 with(fail);refine jg 2 [(39,4,_),(39,4,_)] ?_;intro WB HB d0 sWB fHB;simp only[Bx,Bo]at fHB;have HF:=i8 HB;refine cQ (aw WB) [0,1,2,3,4,5,6,7,8,9,10,11,12,13,14,15] 0 ?_;iterate 16 refine pO ?_
   refine pE ?_;refine cU ?_;go_wp2_with(first|(go_at_call 318;refine(Mh _ (by first|exact hz.out.1|exact hz.out.2) _).mono ?_;rintro e w3⟨rfl,rfl⟩));go_ret;exact⟨rfl,d0.trans ((cb:Below WB.heap.size WB _).mono aa)⟩
end
section
attribute[local go_sem high]ah
attribute[local simp high]ah
theorem oL{p:Prop}(h:PQ p:=by have kq1:Below WB.heap.size WB w1q:=aj hb cb cs;have hk1:=aw.mk kq1;have sq1:=kq1.size;have hB1:=Bx.mono kq1 HB.out aF;exact pq (And.intro kq1 (And.intro hk1 (And.intro sq1 hB1)))):p:=h
theorem z7{p:Prop}(h:p:=by
 go_enter Tryz.func243,Tryz.ntmps243;go_upto_region 1 with(fail);refine jg 2 [(39,4,_),(34,3,_)] ?_;intro WB HB d0 sWB fHB;simp only[Bx,Bo]at fHB;have HF:=i8 HB;refine cQ (aw WB) [0] 23 ?_;refine pO ?_;refine pE ?_;refine bl 1 ?_;simp only[PL];go_wp2_with fail;refine(HN.out _).mono ?_;rintro e w1q⟨rfl,hb⟩;obtain⟨kq1,hk1,sq1,hB1⟩:=oL;simp only[Bx,Bo]at hB1;clear hb;go_wp2;refine ba ?_;refine bE [2] 21 ?_;refine pO ?_;refine pE ?_;refine gY 3 ?_;refine bl 4 ?_;simp only[PL];go_wp2_with fail;refine(HR.out _).mono ?_;rintro e w4q⟨rfl,hb⟩;have kq4:Below WB.heap.size WB w4q:=aj hb cb cs;have hk4:=aw.mk kq4;have sq4:=kq4.size;have hB4:=Bx.mono kq4 HB.out aF;simp only[Bx,Bo]at hB4;clear hb;go_wp2;refine ba ?_;refine bE [5,6] 17 ?_;iterate 2 refine pO ?_
 refine pE ?_;refine gY 7 ?_;refine gY 8 ?_;refine gY 9 ?_;refine gY 10 ?_;refine gY 11 ?_;refine gY 12 ?_;refine bE [13,14] 9 ?_;iterate 2 refine pO ?_
 refine pE ?_;refine gN 15 ?_;refine gN 16 ?_;refine gN 17 ?_;refine gN 18 ?_;refine gN 19 ?_;refine gN 20 ?_;refine gN 21 ?_;refine bE [22,23] 0 ?_;iterate 2 refine pO ?_
 refine pE ?_;refine cU ?_;go_wp2;go_ret;exact⟨rfl,d0.trans ((cb:Below WB.heap.size WB _).mono aa)⟩):p:=h
theorem z8{p:Prop}(h:p:=by
 refine bE [5,6] 17 ?_;iterate 2 refine pO ?_
 refine pE ?_;refine gN 7 ?_;refine gN 8 ?_;refine gN 9 ?_;refine gN 10 ?_;refine gN 11 ?_;refine gN 12 ?_;refine bE [13,14] 9 ?_;iterate 2 refine pO ?_
 refine pE ?_;refine gN 15 ?_;refine gN 16 ?_;refine gN 17 ?_;refine gN 18 ?_;refine gN 19 ?_;refine gN 20 ?_;refine gN 21 ?_;refine bE [22,23] 0 ?_;iterate 2 refine pO ?_
 refine pE ?_;refine cU ?_;go_wp2;go_ret;exact⟨rfl,d0.trans ((cb:Below WB.heap.size WB _).mono aa)⟩):p:=h
def Ko(s:Bool)(h l b:Int)(s':Bool)(h' l':Int):Bool:=Fg s h l b&&(ir s' h' l'&&(decide (s=s')&&(decide (pm s' h' b=h)&&decide (nJ s' l' b=l))))
theorem NL(s:Bool)(h l b:Int)(s':Bool)(h' l':Int)(hl:U6 l)(hl':U6 l')(w:World):Calls Tryz.prog 243 #[.agg #[s,J h,J l,b],.agg #[s',J h',J l']] w fun e w'=>e= .returned (.bool (Ko s h l b s' h' l'))∧Below w.heap.size w w':=by
 unfold Ko;have HN:=Lib.hid (fun(W:World)=>wM s h l b hl W);have HR:=Lib.hid (fun(W:World)=>kH s' h' l' hl' W);cases hn:Fg s h l b;·rw[hn]at HN;simp only[Bool.false_and];clear hn;go_enter Tryz.func243,Tryz.ntmps243;go_upto_region 1 with(fail);refine jg 2 [(39,4,_),(34,3,_)] ?_;intro WB HB d0 sWB fHB;simp only[Bx,Bo]at fHB;have HF:=i8 HB;refine cQ (aw WB) [0] 23 ?_;refine pO ?_;refine pE ?_;refine bl 1 ?_;simp only[PL];go_wp2_with fail;refine(HN.out _).mono ?_;rintro e w1q⟨rfl,hb⟩;obtain⟨kq1,hk1,sq1,hB1⟩:=oL;simp only[Bx,Bo]at hB1;clear hb;go_wp2;refine ba ?_;refine bE [2] 21 ?_;refine pO ?_;refine pE ?_;refine gN 3 ?_;refine gN 4 ?_;exact z8
 rw[hn]at HN;simp only[Bool.true_and];cases hr:ir s' h' l';·rw[hr]at HR;simp only[Bool.false_and];clear hr hn;go_enter Tryz.func243,Tryz.ntmps243;go_upto_region 1 with(fail);refine jg 2 [(39,4,_),(34,3,_)] ?_;intro WB HB d0 sWB fHB;simp only[Bx,Bo]at fHB;have HF:=i8 HB;refine cQ (aw WB) [0] 23 ?_;refine pO ?_;refine pE ?_;refine bl 1 ?_;simp only[PL];go_wp2_with fail;refine(HN.out _).mono ?_;rintro e w1q⟨rfl,hb⟩;obtain⟨kq1,hk1,sq1,hB1⟩:=oL;simp only[Bx,Bo]at hB1;clear hb;go_wp2;refine ba ?_;refine bE [2] 21 ?_;refine pO ?_;refine pE ?_;refine gY 3 ?_;refine bl 4 ?_;simp only[PL];go_wp2_with fail;refine(HR.out _).mono ?_;rintro e w4q⟨rfl,hb⟩;have kq4:Below WB.heap.size WB w4q:=aj hb cb cs;have hk4:=aw.mk kq4;have sq4:=kq4.size;have hB4:=Bx.mono kq4 HB.out aF;simp only[Bx,Bo]at hB4;clear hb;go_wp2;refine ba ?_;exact z8
 have HM:=Lib.hid (fun(e:s=s')(W:World)=>C7 s' h' l' b hl' hr (by unfold Fg at hn;simp at hn;exact hn.1.2.1) (by unfold Fg at hn;simp at hn;rw[←e];exact hn.1.2.2) W);rw[hr]at HR;rw[Hp]at HM;simp only[Bool.true_and];by_cases es:s=s';·
  subst es;simp only[decide_true,Bool.true_and];replace HM:=Lib.hid (HM.out rfl);clear hr hn;by_cases c1:pm s h' b=h<;>by_cases c2:nJ s l' b=l;all_goals
   simp only[c1,c2,decide_true,decide_false,Bool.and_true,Bool.and_false,Bool.true_and];try rw[c1]at HM
   try rw[c2]at HM
   go_enter Tryz.func243,Tryz.ntmps243;go_upto_region 1 with(fail);refine jg 2 [(39,4,_),(34,3,_)] ?_;intro WB HB d0 sWB fHB;simp only[Bx,Bo]at fHB;have HF:=i8 HB;refine cQ (aw WB) [0] 23 ?_;refine pO ?_;refine pE ?_;refine bl 1 ?_;simp only[PL];go_wp2_with fail;refine(HN.out _).mono ?_;rintro e w1q⟨rfl,hb⟩;obtain⟨kq1,hk1,sq1,hB1⟩:=oL;simp only[Bx,Bo]at hB1;clear hb;go_wp2;refine ba ?_;refine bE [2] 21 ?_;refine pO ?_;refine pE ?_;refine gY 3 ?_;refine bl 4 ?_;simp only[PL];go_wp2_with fail;refine(HR.out _).mono ?_;rintro e w4q⟨rfl,hb⟩;have kq4:Below WB.heap.size WB w4q:=aj hb cb cs;have hk4:=aw.mk kq4;have sq4:=kq4.size;have hB4:=Bx.mono kq4 HB.out aF;simp only[Bx,Bo]at hB4;clear hb;go_wp2;refine ba ?_;refine bE [5,6] 17 ?_;iterate 2 refine pO ?_
   refine pE ?_;refine gY 7 ?_;refine gY 8 ?_;refine gY 9 ?_;refine gY 10 ?_;refine gY 11 ?_;refine gY 12 ?_;refine bE [13,14] 9 ?_;iterate 2 refine pO ?_
   refine pE ?_;refine gY 15 ?_;refine gY 16 ?_;refine gY 17 ?_;refine gY 19 ?_;refine gY 20 ?_;refine bl 18 ?_;simp only[PL];go_wp2_with fail;refine(HM.out _).mono ?_;rintro e w18q⟨rfl,hb⟩;have kq18:Below WB.heap.size WB w18q:=aj hb cb cs;have hk18:=aw.mk kq18;have sq18:=kq18.size;have hB18:=Bx.mono kq18 HB.out aF;simp only[Bx,Bo]at hB18;clear hb;go_wp2;refine ba ?_;refine gY 21 ?_;refine bE [22,23] 0 ?_;iterate 2 refine pO ?_
   refine pE ?_;refine cU ?_;go_wp2;go_ret;exact⟨rfl,d0.trans ((cb:Below WB.heap.size WB _).mono aa)⟩
 ·have q1:decide (s=s')=false:=decide_eq_false es;simp only[q1,Bool.false_and];clear hr hn q1 HM;obtain⟨rfl,rfl⟩|⟨rfl,rfl⟩:(s=true∧s'=false)∨(s=false∧s'=true):=by cases s<;>cases s'<;>simp_all
  ·exact z7
  ·exact z7
end
section
theorem C1:(Tryz.prog.info? 344).map (·.size)=some 8:=af
theorem rS:lj 344:=fun _ _ _ _ _ _ _=>rfl
theorem uf:lh 344 8:=l6 C1 Tryz.underlying344 rfl
theorem qA:ll 344:=fun _ _ _ _ _ _ _ _=>rfl
theorem tj:li 344 8:=mG C1
attribute[go_sem↓]rS qA
attribute[go_sem]uf tj
theorem C0:(Tryz.prog.info? 341).map (·.size)=some 3:=af
theorem rR:lj 341:=fun _ _ _ _ _ _ _=>rfl
theorem ue:lh 341 3:=l6 C0 Tryz.underlying341 rfl
theorem qz:ll 341:=fun _ _ _ _ _ _ _ _=>rfl
theorem ti:li 341 3:=mG C0
attribute[go_sem↓]rR qz
attribute[go_sem]ue ti
theorem CZ:(Tryz.prog.info? 288).map (·.size)=some 5:=af
theorem rP:lj 288:=fun _ _ _ _ _ _ _=>rfl
theorem uc:lh 288 5:=l6 CZ Tryz.underlying288 rfl
theorem qx:ll 288:=fun _ _ _ _ _ _ _ _=>rfl
theorem tg:li 288 5:=mG CZ
attribute[go_sem↓]rP qx
attribute[go_sem]uc tg
attribute[local go_sem high]ah
attribute[local simp high]ah
structure Nt where
 s:Bool
 h:Int
 l:Int
 b:Int deriving DecidableEq
def jB(n:Nt):Prop:=U6 n.h∧U6 n.l∧0≤n.b∧n.b≤128
inductive Tn
 |nil
 |node(n:Nt)(v:Int)(has:Bool)(k0 k1:Tn)
def RS(n:Nt)(v:Int)(has:Bool)(v0 v1:Value):Array Value:=#[n.s,J n.h,J n.l,n.b,v,has,v0,v1]
def fJ(R:Nat→Prop)(W:World):Value→Tn→Prop
 |p,.nil=>p= .pointer none
 |p,.node n v has k0 k1=>jB n∧∃g v0 v1,p= .pointer (some ⟨g,0,none⟩)∧R g∧Bo W g 344 8 (RS n v has v0 v1)∧v0.oneCell'=true∧v1.oneCell'=true∧fJ R W v0 k0∧fJ R W v1 k1
theorem Bo.below{W W':World}{B g n:Nat}{t:TypeId}{C:Array Value}(h:Bo W g t n C)(k:Below B W W')(hg:g<B):Bo W' g t n C:=Bo.of ((k.block g hg).trans h.heap.1) h.heap.2
theorem fJ.keep{R R':Nat→Prop}{W W':World}(k:Kp R W W')(m:∀q,R q→R' q):∀{t:Tn}{p:Value},fJ R W p t→fJ R' W' p t
 | .nil,_,h=>h
 | .node n v has k0 k1,_,⟨h0,g,v0,v1,h1,h2,h3,h4,h5,h6,h7⟩=>⟨h0,g,v0,v1,h1,m g h2,Bo.of ((k.2 g h2 h3.2.2.2.1).trans h3.heap.1) h3.heap.2,h4,h5,fJ.keep k m h6,fJ.keep k m h7⟩
theorem fJ.cut{R:Nat→Prop}{W:World}:∀{t:Tn}{p:Value},fJ R W p t→fJ (fun q=>R q∧q<W.heap.size) W p t
 | .nil,_,h=>h
 | .node n v has k0 k1,_,⟨h0,g,v0,v1,h1,h2,h3,h4,h5,h6,h7⟩=>⟨h0,g,v0,v1,h1,⟨h2,h3.2.2.2.1⟩,h3,h4,h5,fJ.cut h6,fJ.cut h7⟩
theorem fJ.one{R:Nat→Prop}{W:World}:∀{t:Tn}{p:Value},fJ R W p t→p.oneCell'=true
 | .nil,_,h=>by rw[h];rfl
 | .node n v has k0 k1,_,⟨_,g,v0,v1,h1,_⟩=>by rw[h1];rfl
theorem fJ.ptr{R:Nat→Prop}{W:World}:∀{t:Tn}{p:Value},fJ R W p t→∃a,p= .pointer a
 | .nil,_,h=>⟨_,h⟩
 | .node n v has k0 k1,_,⟨_,g,v0,v1,h1,_⟩=>⟨_,h1⟩
noncomputable def jE(n:Nt)(i:Int):Int:=xJ n.s n.h n.l i
theorem nN(n:Nt)(h:jB n)(i:Int)(hi:Rg i):jE n i=0∨jE n i=1:=(qH n.s n.h n.l i h.1 h.2.1 hi).1
noncomputable def nW(m n:Nt):Int:=JW m.s m.h m.l m.b n.h n.l n.b
open Classical in noncomputable def aQ(n:Nt)(i:Int):Nt:=if Dc n.s n.h n.l i then⟨n.s,pm n.s n.h i,nJ n.s n.l i,i⟩else⟨false,0,0,0⟩
noncomputable def t7(r:Int)(a:Tn)(k:Tn×Tn):Tn×Tn:=if r=0 then(a,k.2)else(k.1,a)
noncomputable def kj(old:Tn)(m n:Nt)(v:Int)(i:Int):Tn:=if i=n.b then(match t7 (jE m i) old (.nil,.nil)with|(a,b)=>.node n v true a b)else match t7 (jE n i) (.node n v true .nil .nil) (t7 (jE m i) old (.nil,.nil))with|(a,b)=>.node (aQ n i) 0 false a b
noncomputable def lU(n:Nt)(v:Int):Tn→Tn
 | .nil=>.node n v true .nil .nil
 | .node m x has k0 k1=>if nW m n<m.b then kj (.node m x has k0 k1) m n v (nW m n)else if nW m n=n.b then .node n v true k0 k1 else if jE n (nW m n)=0 then .node m x has (lU n v k0) k1 else .node m x has k0 (lU n v k1)
theorem JY(m n:Nt)(hm:jB m)(hn:jB n):Rg (nW m n)∧nW m n≤m.b∧nW m n≤n.b:=by have h1:=hm.2.2;have h2:=hn.2.2;have e1:=ot (bits .xor .u64 m.h n.h);have e2:=ot (bits .xor .u64 m.l n.l);unfold nW JW Rg;split<;>split<;>omega
theorem K7(n:Nt)(hn:jB n)(i:Int):jB (aQ n i):=by
 unfold aQ;split;·
  rename_i h;have hb:gq n.s≤128:=by unfold gq;split<;>omega
  refine⟨?_,?_,h.2.1,by have:=h.2.2;show i≤128;omega⟩;·
   show U6 (pm n.s n.h i);unfold pm;split;·exact tK _
   ·exact hn.1
  ·show U6 (nJ n.s n.l i);unfold nJ;split<;>exact tK _
 ·exact⟨⟨az,az⟩,⟨az,az⟩,by show(0:Int)≤0;decide,by show(0:Int)≤128;decide⟩
theorem oA(n:Nt)(hn:jB n)(i:Int)(w:World):∃ok:Bool,Calls Tryz.prog 173 #[.agg #[n.s,J n.h,J n.l],i] w fun e w'=>e= .returned (.tuple #[.agg #[.bool (aQ n i).s,J (aQ n i).h,J (aQ n i).l,I (aQ n i).b],ok])∧Below w.heap.size w w':=by
 by_cases h:Dc n.s n.h n.l i;·
  have e:aQ n i=⟨n.s,pm n.s n.h i,nJ n.s n.l i,i⟩:=by unfold aQ;rw[if_pos h]
  rw[e];exact⟨true,qM n.s n.h n.l i hn.2.1 h w⟩
 ·have e:aQ n i=⟨false,0,0,0⟩:=by unfold aQ;rw[if_neg h]
  rw[e];exact⟨false,qN n.s n.h n.l i hn.2.1 h w⟩
end
section
attribute[local go_sem high]ah
attribute[local simp high]ah
theorem mv{p:Prop}(h:PQ p:=by have k5:Below w1.heap.size w1 ((w1.alloc (.cells #[.bool (aQ n i).s,J (aQ n i).h,J (aQ n i).l,I (aQ n i).b] 39)).alloc (.cells (#[.bool (aQ n i).s,J (aQ n i).h,J (aQ n i).l,I (aQ n i).b,Z,F,(.pointer none),(.pointer none)]) 344)):=((Below.refl _ _).alloc (Nat.le_refl _) _).alloc ix _;have HX5:=Lib.hid (show Bo ((w1.alloc (.cells #[.bool (aQ n i).s,J (aQ n i).h,J (aQ n i).l,I (aQ n i).b] 39)).alloc (.cells (#[.bool (aQ n i).s,J (aQ n i).h,J (aQ n i).l,I (aQ n i).b,Z,F,(.pointer none),(.pointer none)]) 344)) (w1.heap.size+1) 344 8 (#[.bool (aQ n i).s,J (aQ n i).h,J (aQ n i).l,I (aQ n i).b,Z,F,(.pointer none),(.pointer none)])from(dY:Bx ((w1.alloc (.cells #[.bool (aQ n i).s,J (aQ n i).h,J (aQ n i).l,I (aQ n i).b] 39)).alloc (.cells (#[.bool (aQ n i).s,J (aQ n i).h,J (aQ n i).l,I (aQ n i).b,Z,F,(.pointer none),(.pointer none)]) 344)) (w1.heap.size+1) [(344,8,#[.bool (aQ n i).s,J (aQ n i).h,J (aQ n i).l,I (aQ n i).b,Z,F,(.pointer none),(.pointer none)])]).1);have ho5:=Lib.hid (ho1.out.below k5 aa);have hl5:=Lib.hid (hl1.out.below k5 aa);have d5:Below w.heap.size w ((w1.alloc (.cells #[.bool (aQ n i).s,J (aQ n i).h,J (aQ n i).l,I (aQ n i).b] 39)).alloc (.cells (#[.bool (aQ n i).s,J (aQ n i).h,J (aQ n i).l,I (aQ n i).b,Z,F,(.pointer none),(.pointer none)]) 344)):=kb.out.trans (k5.mono s1);have s5:w1.heap.size+1<((w1.alloc (.cells #[.bool (aQ n i).s,J (aQ n i).h,J (aQ n i).l,I (aQ n i).b] 39)).alloc (.cells (#[.bool (aQ n i).s,J (aQ n i).h,J (aQ n i).l,I (aQ n i).b,Z,F,(.pointer none),(.pointer none)]) 344)).heap.size:=ay;exact pq (And.intro k5 (And.intro HX5 (And.intro ho5 (And.intro hl5 (And.intro d5 s5)))))):p:=h
theorem vu{p:Prop}(h:PQ p:=by
 have HX6:=Lib.hid (HT2.out.row (D:=#[.bool (aQ n i).s,J (aQ n i).h,J (aQ n i).l,I (aQ n i).b,Z,F,(H gm 0),(.pointer none)]) rfl);have u6:ax x W5 (w2.setRow x (#[.bool (aQ n i).s,J (aQ n i).h,J (aQ n i).l,I (aQ n i).b,Z,F,(H gm 0),(.pointer none)])):=aP (ax.of_below b2) _;have hl6:=Lib.hid (hl5.out.upto u6 aa);have d6:Below w.heap.size w (w2.setRow x (#[.bool (aQ n i).s,J (aQ n i).h,J (aQ n i).l,I (aQ n i).b,Z,F,(H gm 0),(.pointer none)])):=ai (d5.trans (b2.mono aa)) aa _;have s6:x<(w2.setRow x (#[.bool (aQ n i).s,J (aQ n i).h,J (aQ n i).l,I (aQ n i).b,Z,F,(H gm 0),(.pointer none)])).heap.size:=by rw[cX];have:=b2.size;omega
 exact pq (And.intro HX6 (And.intro u6 (And.intro hl6 (And.intro d6 s6))))):p:=h
theorem vv{p:Prop}(h:PQ p:=by
 have HX6:=Lib.hid (HT2.out.row (D:=#[.bool (aQ n i).s,J (aQ n i).h,J (aQ n i).l,I (aQ n i).b,Z,F,(.pointer none),(H gm 0)]) rfl);have u6:ax x W5 (w2.setRow x (#[.bool (aQ n i).s,J (aQ n i).h,J (aQ n i).l,I (aQ n i).b,Z,F,(.pointer none),(H gm 0)])):=aP (ax.of_below b2) _;have hl6:=Lib.hid (hl5.out.upto u6 aa);have d6:Below w.heap.size w (w2.setRow x (#[.bool (aQ n i).s,J (aQ n i).h,J (aQ n i).l,I (aQ n i).b,Z,F,(.pointer none),(H gm 0)])):=ai (d5.trans (b2.mono aa)) aa _;have s6:x<(w2.setRow x (#[.bool (aQ n i).s,J (aQ n i).h,J (aQ n i).l,I (aQ n i).b,Z,F,(.pointer none),(H gm 0)])).heap.size:=by rw[cX];have:=b2.size;omega
 exact pq (And.intro HX6 (And.intro u6 (And.intro hl6 (And.intro d6 s6))))):p:=h
theorem mw{p:Prop}(h:PQ p:=by have q1:¬(gm=x):=aa;have q2:¬(x=gm):=aa;have q3:¬(g=x):=aa;have q4:¬(x=g):=aa;have hxw:w.heap.size≤x:=aa;exact pq (And.intro q1 (And.intro q2 (And.intro q3 (And.intro q4 hxw))))):p:=h
theorem my{p:Prop}(h:PQ p:=by have b2:Below W5.heap.size W5 w2:=((Below.refl W5.heap.size W5).drew).trans hb;have HT2:=Lib.hid (HX5.out.below b2 HX5.out.2.2.2.1);have fT2:=HT2.out;exact pq (And.intro b2 (And.intro HT2 fT2))):p:=h
theorem mz{p:Prop}(h:PQ p:=by have b3:Below W6.heap.size W6 w3:=((Below.refl W6.heap.size W6).drew).trans hb;have HT3:=Lib.hid (HX6.out.below b3 HX6.out.2.2.2.1);have fT3:=HT3.out;exact pq (And.intro b3 (And.intro HT3 fT3))):p:=h
theorem jV(n:Nt)(h:jB n)(i:Int)(hi:Rg i)(w:World):Calls Tryz.prog 278 #[.agg #[n.s,J n.h,J n.l,n.b],i] w fun e w'=>e= .returned (I (jE n i))∧Below w.heap.size w w':=KN n.s n.h n.l n.b i h.1 h.2.1 hi w
theorem Bo.keep{W W':World}{g n:Nat}{t:TypeId}{C:Array Value}(h:Bo W g t n C)(k:W'.heap[g]? =W.heap[g]?):Bo W' g t n C:=Bo.of (k.trans h.heap.1) h.heap.2
theorem Bo.upto{T:Nat}{W W':World}{g n:Nat}{t:TypeId}{C:Array Value}(h:Bo W g t n C)(k:ax T W W')(hg:g≠T):Bo W' g t n C:=h.keep (k.block g h.2.2.2.1 hg)
theorem Bo.row{W:World}{g n:Nat}{t:TypeId}{C D:Array Value}(h:Bo W g t n C)(hD:D.size=n):Bo (W.setRow g D) g t n D:=by have h1:=ip (C:=D) h.1 hD;have h2:=bK h1;rw[j3 h.1]at h2;exact Bo.of h2.1 hD
theorem DY(B:Nat)(m n:Nt)(mx v:Int)(mh:Bool)(v0 v1:Value)(g gm:Nat)(w:World)(hm:jB m)(hn:jB n)(ho:Bo w gm 344 8 #[m.s,J m.h,J m.l,m.b,mx,mh,v0,v1])(hl:Bo w g 344 8 #[n.s,J n.h,J n.l,n.b,v,Y,(.pointer none),(.pointer none)])(hgm:gm<B)(hg:B≤g)(i:Int)(hi:Rg i)(he:i=n.b):Calls Tryz.prog 301 #[H gm 0,H g 0,i] w fun e w'=>e= .returned (H g 0)∧Bo w' g 344 8 (if jE m i=0 then#[n.s,J n.h,J n.l,n.b,v,Y,(H gm 0),(.pointer none)]else#[n.s,J n.h,J n.l,n.b,v,Y,(.pointer none),(H gm 0)])∧ax g w w':=by
 subst he;have hne:gm≠g:=aa;have hne2:¬(gm=g):=aa;have hne3:¬(g=gm):=aa;have fo:=ho;have fl:=hl;simp only[Bo]at fo fl;rcases nN m hm n.b hi with hr|hr;·
  rw[if_pos hr];go_enter Tryz.func301,Tryz.ntmps301;go_upto_region 2 with(fail);have HF:=Lib.hid (fun(W:World)(hS:(ax g w) W)=>ho.upto hS aa);refine cQ (ax g w) [0,1,2,3,4,5,6,8,9,10] 3 ?_;iterate 10 refine pO ?_
  refine pE ?_;refine bl 7 ?_;simp only[PL];go_wp2_with fail;refine(jV m hm n.b hi _).mono ?_;rintro e w2⟨rfl,hb⟩;have b2:Below w.heap.size w w2:=((Below.refl w.heap.size w).drew).trans hb;have HT2:=Lib.hid (hl.below b2 hl.2.2.2.1);have fT2:=HT2.out;simp only[Bo]at fT2;rw[hr];clear hb;go_wp2;refine ba ?_;refine bE [11] 1 ?_;refine pO ?_;refine pE ?_;refine bl 12 ?_;simp only[PL];go_wp2;refine ba ?_;refine cU ?_;go_wp2;go_ret;exact⟨rfl,HT2.out.row (D:=#[n.s,J n.h,J n.l,n.b,v,Y,(H gm 0),(.pointer none)]) rfl,aP (ax.of_below b2) _⟩
 ·rw[if_neg (by rw[hr];decide)];go_enter Tryz.func301,Tryz.ntmps301;go_upto_region 2 with(fail);have HF:=Lib.hid (fun(W:World)(hS:(ax g w) W)=>ho.upto hS aa);refine cQ (ax g w) [0,1,2,3,4,5,6,8,9,10] 3 ?_;iterate 10 refine pO ?_
  refine pE ?_;refine bl 7 ?_;simp only[PL];go_wp2_with fail;refine(jV m hm n.b hi _).mono ?_;rintro e w2⟨rfl,hb⟩;have b2:Below w.heap.size w w2:=((Below.refl w.heap.size w).drew).trans hb;have HT2:=Lib.hid (hl.below b2 hl.2.2.2.1);have fT2:=HT2.out;simp only[Bo]at fT2;rw[hr];clear hb;go_wp2;refine ba ?_;refine bE [11] 1 ?_;refine pO ?_;refine pE ?_;refine bl 12 ?_;simp only[PL];go_wp2;refine ba ?_;refine cU ?_;go_wp2;go_ret;exact⟨rfl,HT2.out.row (D:=#[n.s,J n.h,J n.l,n.b,v,Y,(.pointer none),(H gm 0)]) rfl,aP (ax.of_below b2) _⟩
theorem DZ(B:Nat)(m n:Nt)(mx v:Int)(mh:Bool)(v0 v1:Value)(g gm:Nat)(w:World)(hm:jB m)(hn:jB n)(ho:Bo w gm 344 8 #[m.s,J m.h,J m.l,m.b,mx,mh,v0,v1])(hl:Bo w g 344 8 #[n.s,J n.h,J n.l,n.b,v,Y,(.pointer none),(.pointer none)])(hgm:gm<B)(hg:B≤g)(i:Int)(hi:Rg i)(he:¬(i=n.b)):Calls Tryz.prog 301 #[H gm 0,H g 0,i] w fun e w'=>∃x,e= .returned (H x 0)∧w.heap.size≤x∧Bo w' x 344 8 (if jE n i=0 then(if jE m i=0 then#[.bool (aQ n i).s,J (aQ n i).h,J (aQ n i).l,I (aQ n i).b,Z,F,(H g 0),(.pointer none)]else#[.bool (aQ n i).s,J (aQ n i).h,J (aQ n i).l,I (aQ n i).b,Z,F,(H g 0),(H gm 0)])else(if jE m i=0 then#[.bool (aQ n i).s,J (aQ n i).h,J (aQ n i).l,I (aQ n i).b,Z,F,(H gm 0),(H g 0)]else#[.bool (aQ n i).s,J (aQ n i).h,J (aQ n i).l,I (aQ n i).b,Z,F,(.pointer none),(H g 0)]))∧Below w.heap.size w w':=by
 have fo:=ho;have fl:=hl;have hlg:=hl.2.2.2.1;simp only[Bo]at fo fl;rcases nN m hm i hi with hr1|hr1<;>rcases nN n hn i hi with hr2|hr2;·
  rw[if_pos hr2,if_pos hr1];go_enter Tryz.func301,Tryz.ntmps301;go_wp2_with fail;obtain⟨ok,HM⟩:=oA n hn i w;refine HM.mono ?_;rintro e w1⟨rfl,hb⟩;have ho1:=Lib.hid (ho.below hb aa);have hl1:=Lib.hid (hl.below hb hl.2.2.2.1);have s1:=hb.size;have kb:=Lib.hid hb;clear hb HM fo fl;go_wp2_with fail;obtain⟨k5,HX5,ho5,hl5,d5,s5⟩:=mv;clear k5 ho1 hl1 kb;generalize((w1.alloc (.cells #[.bool (aQ n i).s,J (aQ n i).h,J (aQ n i).l,I (aQ n i).b] 39)).alloc (.cells (#[.bool (aQ n i).s,J (aQ n i).h,J (aQ n i).l,I (aQ n i).b,Z,F,(.pointer none),(.pointer none)]) 344))=W5 at*;obtain⟨x,hx⟩:∃x,x=w1.heap.size+1:=⟨_,rfl⟩;rw[←hx]at HX5 s5⊢;have f5:=HX5.out;have f5o:=ho5.out;simp only[Bo]at f5 f5o;obtain⟨q1,q2,q3,q4,hxw⟩:=mw;clear hx;have HF:=Lib.hid (fun(W:World)(hS:(ax x W5) W)=>ho5.out.upto hS aa);refine cQ (ax x W5) [0,1,2,3,4,5,6,8,9,10] 3 ?_;iterate 10 refine pO ?_
  refine pE ?_;refine bl 7 ?_;simp only[PL];go_wp2_with fail;refine(jV m hm i hi _).mono ?_;rintro e w2⟨rfl,hb⟩;obtain⟨b2,HT2,fT2⟩:=my;simp only[Bo]at fT2;rw[hr1];clear hb;go_wp2;refine ba ?_;refine bE [11] 1 ?_;refine pO ?_;refine pE ?_;refine bl 12 ?_;simp only[PL];go_wp2;refine ba ?_;refine cU ?_;obtain⟨HX6,u6,hl6,d6,s6⟩:=vu;go_wp2_with fail;clear u6 b2 HT2 fT2 HX5 ho5 hl5 d5;generalize(w2.setRow x (#[.bool (aQ n i).s,J (aQ n i).h,J (aQ n i).l,I (aQ n i).b,Z,F,(H gm 0),(.pointer none)]))=W6 at*;have f6:=HX6.out;have f6l:=hl6.out;simp only[Bo]at f6 f6l;have HF:=Lib.hid (fun(W:World)(hS:(ax x W6) W)=>hl6.out.upto hS aa);refine cQ (ax x W6) [0,1,2,3,4,5,6,8,9,10] 3 ?_;iterate 10 refine pO ?_
  refine pE ?_;refine bl 7 ?_;simp only[PL];go_wp2_with fail;refine(jV n hn i hi _).mono ?_;rintro e w3⟨rfl,hb⟩;obtain⟨b3,HT3,fT3⟩:=mz;simp only[Bo]at fT3;rw[hr2];clear hb;go_wp2;refine ba ?_;refine bE [11] 1 ?_;refine pO ?_;refine pE ?_;refine bl 12 ?_;simp only[PL];go_wp2;refine ba ?_;refine cU ?_;go_wp2;go_ret;exact⟨x,rfl,aa,HT3.out.row (D:=#[.bool (aQ n i).s,J (aQ n i).h,J (aQ n i).l,I (aQ n i).b,Z,F,(H g 0),(.pointer none)]) rfl,ai (d6.trans (b3.mono aa)) aa _⟩
 ·rw[if_neg (by rw[hr2];decide),if_pos hr1];go_enter Tryz.func301,Tryz.ntmps301;go_wp2_with fail;obtain⟨ok,HM⟩:=oA n hn i w;refine HM.mono ?_;rintro e w1⟨rfl,hb⟩;have ho1:=Lib.hid (ho.below hb aa);have hl1:=Lib.hid (hl.below hb hl.2.2.2.1);have s1:=hb.size;have kb:=Lib.hid hb;clear hb HM fo fl;go_wp2_with fail;obtain⟨k5,HX5,ho5,hl5,d5,s5⟩:=mv;clear k5 ho1 hl1 kb;generalize((w1.alloc (.cells #[.bool (aQ n i).s,J (aQ n i).h,J (aQ n i).l,I (aQ n i).b] 39)).alloc (.cells (#[.bool (aQ n i).s,J (aQ n i).h,J (aQ n i).l,I (aQ n i).b,Z,F,(.pointer none),(.pointer none)]) 344))=W5 at*;obtain⟨x,hx⟩:∃x,x=w1.heap.size+1:=⟨_,rfl⟩;rw[←hx]at HX5 s5⊢;have f5:=HX5.out;have f5o:=ho5.out;simp only[Bo]at f5 f5o;obtain⟨q1,q2,q3,q4,hxw⟩:=mw;clear hx;have HF:=Lib.hid (fun(W:World)(hS:(ax x W5) W)=>ho5.out.upto hS aa);refine cQ (ax x W5) [0,1,2,3,4,5,6,8,9,10] 3 ?_;iterate 10 refine pO ?_
  refine pE ?_;refine bl 7 ?_;simp only[PL];go_wp2_with fail;refine(jV m hm i hi _).mono ?_;rintro e w2⟨rfl,hb⟩;obtain⟨b2,HT2,fT2⟩:=my;simp only[Bo]at fT2;rw[hr1];clear hb;go_wp2;refine ba ?_;refine bE [11] 1 ?_;refine pO ?_;refine pE ?_;refine bl 12 ?_;simp only[PL];go_wp2;refine ba ?_;refine cU ?_;obtain⟨HX6,u6,hl6,d6,s6⟩:=vu;go_wp2_with fail;clear u6 b2 HT2 fT2 HX5 ho5 hl5 d5;generalize(w2.setRow x (#[.bool (aQ n i).s,J (aQ n i).h,J (aQ n i).l,I (aQ n i).b,Z,F,(H gm 0),(.pointer none)]))=W6 at*;have f6:=HX6.out;have f6l:=hl6.out;simp only[Bo]at f6 f6l;have HF:=Lib.hid (fun(W:World)(hS:(ax x W6) W)=>hl6.out.upto hS aa);refine cQ (ax x W6) [0,1,2,3,4,5,6,8,9,10] 3 ?_;iterate 10 refine pO ?_
  refine pE ?_;refine bl 7 ?_;simp only[PL];go_wp2_with fail;refine(jV n hn i hi _).mono ?_;rintro e w3⟨rfl,hb⟩;obtain⟨b3,HT3,fT3⟩:=mz;simp only[Bo]at fT3;rw[hr2];clear hb;go_wp2;refine ba ?_;refine bE [11] 1 ?_;refine pO ?_;refine pE ?_;refine bl 12 ?_;simp only[PL];go_wp2;refine ba ?_;refine cU ?_;go_wp2;go_ret;exact⟨x,rfl,aa,HT3.out.row (D:=#[.bool (aQ n i).s,J (aQ n i).h,J (aQ n i).l,I (aQ n i).b,Z,F,(H gm 0),(H g 0)]) rfl,ai (d6.trans (b3.mono aa)) aa _⟩
 ·rw[if_pos hr2,if_neg (by rw[hr1];decide)];go_enter Tryz.func301,Tryz.ntmps301;go_wp2_with fail;obtain⟨ok,HM⟩:=oA n hn i w;refine HM.mono ?_;rintro e w1⟨rfl,hb⟩;have ho1:=Lib.hid (ho.below hb aa);have hl1:=Lib.hid (hl.below hb hl.2.2.2.1);have s1:=hb.size;have kb:=Lib.hid hb;clear hb HM fo fl;go_wp2_with fail;obtain⟨k5,HX5,ho5,hl5,d5,s5⟩:=mv;clear k5 ho1 hl1 kb;generalize((w1.alloc (.cells #[.bool (aQ n i).s,J (aQ n i).h,J (aQ n i).l,I (aQ n i).b] 39)).alloc (.cells (#[.bool (aQ n i).s,J (aQ n i).h,J (aQ n i).l,I (aQ n i).b,Z,F,(.pointer none),(.pointer none)]) 344))=W5 at*;obtain⟨x,hx⟩:∃x,x=w1.heap.size+1:=⟨_,rfl⟩;rw[←hx]at HX5 s5⊢;have f5:=HX5.out;have f5o:=ho5.out;simp only[Bo]at f5 f5o;obtain⟨q1,q2,q3,q4,hxw⟩:=mw;clear hx;have HF:=Lib.hid (fun(W:World)(hS:(ax x W5) W)=>ho5.out.upto hS aa);refine cQ (ax x W5) [0,1,2,3,4,5,6,8,9,10] 3 ?_;iterate 10 refine pO ?_
  refine pE ?_;refine bl 7 ?_;simp only[PL];go_wp2_with fail;refine(jV m hm i hi _).mono ?_;rintro e w2⟨rfl,hb⟩;obtain⟨b2,HT2,fT2⟩:=my;simp only[Bo]at fT2;rw[hr1];clear hb;go_wp2;refine ba ?_;refine bE [11] 1 ?_;refine pO ?_;refine pE ?_;refine bl 12 ?_;simp only[PL];go_wp2;refine ba ?_;refine cU ?_;obtain⟨HX6,u6,hl6,d6,s6⟩:=vv;go_wp2_with fail;clear u6 b2 HT2 fT2 HX5 ho5 hl5 d5;generalize(w2.setRow x (#[.bool (aQ n i).s,J (aQ n i).h,J (aQ n i).l,I (aQ n i).b,Z,F,(.pointer none),(H gm 0)]))=W6 at*;have f6:=HX6.out;have f6l:=hl6.out;simp only[Bo]at f6 f6l;have HF:=Lib.hid (fun(W:World)(hS:(ax x W6) W)=>hl6.out.upto hS aa);refine cQ (ax x W6) [0,1,2,3,4,5,6,8,9,10] 3 ?_;iterate 10 refine pO ?_
  refine pE ?_;refine bl 7 ?_;simp only[PL];go_wp2_with fail;refine(jV n hn i hi _).mono ?_;rintro e w3⟨rfl,hb⟩;obtain⟨b3,HT3,fT3⟩:=mz;simp only[Bo]at fT3;rw[hr2];clear hb;go_wp2;refine ba ?_;refine bE [11] 1 ?_;refine pO ?_;refine pE ?_;refine bl 12 ?_;simp only[PL];go_wp2;refine ba ?_;refine cU ?_;go_wp2;go_ret;exact⟨x,rfl,aa,HT3.out.row (D:=#[.bool (aQ n i).s,J (aQ n i).h,J (aQ n i).l,I (aQ n i).b,Z,F,(H g 0),(H gm 0)]) rfl,ai (d6.trans (b3.mono aa)) aa _⟩
 ·rw[if_neg (by rw[hr2];decide),if_neg (by rw[hr1];decide)];go_enter Tryz.func301,Tryz.ntmps301;go_wp2_with fail;obtain⟨ok,HM⟩:=oA n hn i w;refine HM.mono ?_;rintro e w1⟨rfl,hb⟩;have ho1:=Lib.hid (ho.below hb aa);have hl1:=Lib.hid (hl.below hb hl.2.2.2.1);have s1:=hb.size;have kb:=Lib.hid hb;clear hb HM fo fl;go_wp2_with fail;obtain⟨k5,HX5,ho5,hl5,d5,s5⟩:=mv;clear k5 ho1 hl1 kb;generalize((w1.alloc (.cells #[.bool (aQ n i).s,J (aQ n i).h,J (aQ n i).l,I (aQ n i).b] 39)).alloc (.cells (#[.bool (aQ n i).s,J (aQ n i).h,J (aQ n i).l,I (aQ n i).b,Z,F,(.pointer none),(.pointer none)]) 344))=W5 at*;obtain⟨x,hx⟩:∃x,x=w1.heap.size+1:=⟨_,rfl⟩;rw[←hx]at HX5 s5⊢;have f5:=HX5.out;have f5o:=ho5.out;simp only[Bo]at f5 f5o;obtain⟨q1,q2,q3,q4,hxw⟩:=mw;clear hx;have HF:=Lib.hid (fun(W:World)(hS:(ax x W5) W)=>ho5.out.upto hS aa);refine cQ (ax x W5) [0,1,2,3,4,5,6,8,9,10] 3 ?_;iterate 10 refine pO ?_
  refine pE ?_;refine bl 7 ?_;simp only[PL];go_wp2_with fail;refine(jV m hm i hi _).mono ?_;rintro e w2⟨rfl,hb⟩;obtain⟨b2,HT2,fT2⟩:=my;simp only[Bo]at fT2;rw[hr1];clear hb;go_wp2;refine ba ?_;refine bE [11] 1 ?_;refine pO ?_;refine pE ?_;refine bl 12 ?_;simp only[PL];go_wp2;refine ba ?_;refine cU ?_;obtain⟨HX6,u6,hl6,d6,s6⟩:=vv;go_wp2_with fail;clear u6 b2 HT2 fT2 HX5 ho5 hl5 d5;generalize(w2.setRow x (#[.bool (aQ n i).s,J (aQ n i).h,J (aQ n i).l,I (aQ n i).b,Z,F,(.pointer none),(H gm 0)]))=W6 at*;have f6:=HX6.out;have f6l:=hl6.out;simp only[Bo]at f6 f6l;have HF:=Lib.hid (fun(W:World)(hS:(ax x W6) W)=>hl6.out.upto hS aa);refine cQ (ax x W6) [0,1,2,3,4,5,6,8,9,10] 3 ?_;iterate 10 refine pO ?_
  refine pE ?_;refine bl 7 ?_;simp only[PL];go_wp2_with fail;refine(jV n hn i hi _).mono ?_;rintro e w3⟨rfl,hb⟩;obtain⟨b3,HT3,fT3⟩:=mz;simp only[Bo]at fT3;rw[hr2];clear hb;go_wp2;refine ba ?_;refine bE [11] 1 ?_;refine pO ?_;refine pE ?_;refine bl 12 ?_;simp only[PL];go_wp2;refine ba ?_;refine cU ?_;go_wp2;go_ret;exact⟨x,rfl,aa,HT3.out.row (D:=#[.bool (aQ n i).s,J (aQ n i).h,J (aQ n i).l,I (aQ n i).b,Z,F,(.pointer none),(H g 0)]) rfl,ai (d6.trans (b3.mono aa)) aa _⟩
end
end Go.Proofs.YtnncjbkepakgpaaGreat
