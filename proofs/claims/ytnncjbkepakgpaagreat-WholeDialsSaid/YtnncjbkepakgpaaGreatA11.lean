/- NOBODY OF THE LIST HAS THE END. -/
import Derived.Test.YtnncjbkepakgpaaGreatA09
import Derived.Test.YtnncjbkepakgpaaGreatA10
namespace Go.Proofs.YtnncjbkepakgpaaGreat
open Go.RowKit Qv
set_option linter.unusedVariables false
set_option linter.unusedSimpArgs false
set_option maxRecDepth 100000
set_option maxHeartbeats 4000000
attribute[local go_sem↓]bv bj aZ aW
attribute[local go_sem]bN bz dC bq
theorem P0{a b:Nat}(h:Pm.kOf a≠Pm.kOf b):aM a≠aM b:=by unfold aM;omega
theorem GI(x c b:Nat)(hne:aM x≠aM c)(w:World)(hb:b<w.heap.size)(h0:aK w b 36 4=true)(h1:aH w b=(#[F,U,J (aM c),I 80]:AV)):Calls Tryz.prog 248 #[.agg (aJ x),H b 0] w fun e w'=>e= .returned F∧w'=w.alloc (.cells (aJ x) 75):=by have hc:=aI h0;have hb2:b<w.heap.size+1:=aa;unfold aJ;go_enter Tryz.func248,Tryz.ntmps248;go_wp2;go_ret;exact⟨rfl,rfl⟩
theorem G6(L:List Nat)(c b:Nat)(v:Value)(hne:∀x∈L,aM x≠aM c)(w:World)(hb:b<w.heap.size)(h0:aK w b 36 4=true)(h1:aH w b=(#[F,U,J (aM c),I 80]:AV))(hs:Sl w v 10 (L.map aJ))(hl:L.length≤100000):Calls Tryz.prog 247 #[v,.func (.func 248) #[] #[H b 0]] w fun e w'=>e= .returned (I (-1))∧Below w.heap.size w w':=by
 have HS:=Lib.hid hs;obtain⟨a,cap,rfl,q1,q2,q3⟩:=hs;rw[List.length_map]at q1⊢;go_enter Tryz.func247,Tryz.ntmps247;go_wp2;go_loopg[8]L.length(fun g s8 wr=>∃k:Nat,s8= .int .i64 k∧k≤L.length∧g=L.length-k∧aw w wr);case atStart=>exact⟨0,rfl,Nat.zero_le _,rfl,⟨Below.refl _ _⟩⟩
 case round=>
  obtain⟨k,rfl,hk1,hg,hK⟩:=hrel;have HG:=Lib.hid hg;clear hg;by_cases hk:k<L.length;·
   have hkz:(k:Int)<(L.length:Int):=aa;rcases q3 with⟨_,q3⟩|⟨g,o,rfl,hg,q3⟩;·simp at q3;subst q3;simp at hk
   ·have hE:=(q3 k (aJ L[k]) nS).block (hK.out.block g hg);have e1:=hE.is;have e2:=hE.of;have hx:=hne L[k] (List.getElem_mem hk);clear q3;go_wp2_with fail;have hbr:b<wr.heap.size:=Nat.lt_of_lt_of_le hb hK.out.size;refine(GI _ c b hx wr hbr (by rw[(dJ hK.out).1 _ _ _ hb];exact h0) (by rw[(dJ hK.out).2.1 _ hb];exact h1)).mono ?_;rintro e w1⟨rfl,rfl⟩;go_wp2;go_roundg(L.length-(k+1));case measure=>rw[HG.out];omega
    case rel=>exact⟨k+1,bD,aa,rfl,cP hK ((Below.refl _ _).alloc (Nat.le_refl _) _)⟩
  ·have hkz:¬((k:Int)<(L.length:Int)):=aa;go_wp2;go_ret;exact⟨rfl,hK.out⟩
theorem wz(L:List Nat)(c:Nat)(v:Value)(hn:Pm.Clear c L)(w:World)(hs:Sl w v 10 (L.map aJ))(hl:L.length≤100000):Calls Tryz.prog 192 #[v,.agg (#[F,U,J (aM c),I 80])] w fun e w'=>e= .returned (I (-1))∧Below w.heap.size w w':=by have hne:∀x∈L,aM x≠aM c:=fun x hx=>P0 (hn x hx);have HS:=Lib.hid (hs.below ((Below.refl w.heap.size w).alloc (Nat.le_refl _) (.cells (#[F,U,J (aM c),I 80]) 36)));clear hs;go_enter Tryz.func192,Tryz.ntmps192;go_wp2_with(go_at_call 247;refine(G6 L c w.heap.size v hne _ ay dq dq HS.out hl).mono ?_;rintro e w1⟨rfl,hb⟩;have hk:=aw.mk hb);go_ret;exact⟨rfl,i6⟩
end Go.Proofs.YtnncjbkepakgpaaGreat
