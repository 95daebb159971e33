/- HOW MANY PEERS A MEMORY HAS. A MANAGER's STATE. ARE THEY AWAKE? -/
import Derived.Test.YtnncjbkepakgpaaGreatA48
namespace Go.Proofs.YtnncjbkepakgpaaGreat
open Go.RowKit Qv
set_option linter.unusedVariables false
set_option linter.unusedSimpArgs false
set_option maxRecDepth 100000
set_option maxHeartbeats 1500000
section
attribute[local go_sem↓]ew dR fe eN aZ aW ii gK eX eF
attribute[local go_sem]fy eZ fH ff qe oQ jq io dC bq eV eW gW gV fz
attribute[local go_sem high]ah
attribute[local simp high]ah
def pC(ps:List (Nat×List Nat))(k:Nat):List Nat:=((ps.take k).map fun p=>p.2).flatten
theorem An(ps:List (Nat×List Nat))(k:Nat)(hk:k<ps.length):pC ps (k+1)=pC ps k++ps[k].2:=by unfold pC;rw[List.take_succ_eq_append_getElem hk,List.map_append,List.flatten_append];simp
theorem uu(ps:List (Nat×List Nat))(k:Nat):(pC ps k).length=((ps.take k).map fun p=>p.2.length).sum:=by unfold pC;rw[List.length_flatten,List.map_map];rfl
theorem Fs(ps:List (Nat×List Nat))(k:Nat):(pC ps k).length≤(ps.map fun p=>p.2.length).sum:=by rw[uu];have:=congrArg (fun l=>(List.map (fun p:Nat×List Nat=>p.2.length) l).sum) (List.take_append_drop k ps);simp only[List.map_append,List.sum_append]at this;omega
theorem DO(ps:List (Nat×List Nat)):(pC ps ps.length).length=(ps.map fun p=>p.2.length).sum:=by rw[uu,List.take_length]
theorem yE(ps:List (Nat×List Nat))(hn:∀(i:Nat)(p:Nat×List Nat),ps[i]? =some p→p.1=p.2.length)(ht:(ps.map fun p=>p.2.length).sum≤19)(CS:List (Array Value))(v:Value)(w:World)(h:Sl w v 2 CS)(he:i5 ie w CS ps)(hl:ps.length≤100):Calls Tryz.prog 40 #[v] w fun e w'=>∃(v':Value)(D:List Nat),e= .returned v'∧D.length=(ps.map fun p=>p.2.length).sum∧aV w' w.heap.size 75 10 v' (D.map aJ)∧Below w.heap.size w w':=by
 have Hx:=Lib.hid h;have HE:=Lib.hid he;have hcs:CS.length=ps.length:=he.1;have HL:=Lib.hid (fun k=>Nat.le_trans (Fs ps k) ht);have HA:=Lib.hid (DO ps);obtain⟨i0,hi0,-⟩:=info_parts jf;have HNo:=Lib.hid (fun(W w:World)(B n:Nat)(v:Value)(L:List (Array Value))(h:aV W B 75 n v L)(ty:TypeId)(c:Nat)=>ln (P:=Tryz.prog) 55 75 i0 Tryz.underlying55 hi0 (w:=w) h ty c);obtain⟨a,cap,rfl,-⟩:=id h;rw[hcs]at Hx⊢;clear h he;go_enter Tryz.func40,Tryz.ntmps40;go_wp2;go_loopg[3,8]ps.length(fun g s3 s8 wr=>∃k:Nat,s8= .int .i64 k∧k+g=ps.length∧Hid (aV wr w.heap.size 75 10 s3 ((pC ps k).map aJ)∧Below w.heap.size w wr));case atStart=>exact⟨0,rfl,aa,Lib.hid ⟨aV.nil _ _ _ _,Below.refl _ _⟩⟩
 case round=>
  obtain⟨k,rfl,hg,HH⟩:=hrel;obtain⟨hO,hB⟩:=HH.out;have HO:=Lib.hid hO;have HB:=Lib.hid hB;have hws:=hB.size;clear hO hB HH;cases gk with
   |zero=>have hk:¬((k:Int)<(ps.length:Int)):=aa;obtain rfl:k=ps.length:=aa;have hO2:=HO.out.sl;have hOB:=fun q hq=>(HO.out.base (g:=q) hq).1;have HQ:=Lib.hid (And.intro hO2 hOB);clear hO2 hOB;go_wp2_with fail;refine(Bs _ (HL.out _) _ _ HQ.out.1).mono ?_;rintro e w2⟨v2,D,rfl,hD,hO,hb⟩;have HR:=Lib.hid (And.intro hD (And.intro hO hb));clear hD hO hb;go_wp2;refine bodyPost_ret (results_tmp rfl _ _ _) rfl ?_;exact⟨_,D,rfl,HR.out.1.trans HA.out,HR.out.2.1.weaken hws,HB.out.trans (HR.out.2.2.mono hws)⟩
   |succ m=>
    have hk:k<ps.length:=aa;have hkz:(k:Int)<(ps.length:Int):=aa;have hn0:¬((k:Int)<0):=aa;have h0k:0≤(k:Int):=aa;obtain⟨C,hC,vk,rfl,hvk⟩:=HE.out.at (List.getElem?_eq_getElem hk);obtain⟨g,o,cL,e1,hgw,e2,e3,e4,e5⟩:=eC Hx.out hC;simp only[Value.slice.injEq]at e1;obtain⟨rfl,-,-⟩:=e1;have hgr:g<wr.heap.size:=aa;have e2':aR wr ⟨g,o+k*2,none⟩ 2=true:=by rw[(dJ (HB.out)).2.2.1 _ _ _ hgw];exact e2
    have e3':aO wr ⟨g,o+k*2,none⟩ 2=(#[I ps[k].1,vk]:AV):=by rw[(dJ (HB.out)).2.2.2.1 _ _ _ hgw];exact e3
    clear e2 e3 e5;have e6:=hn k ps[k] (List.getElem?_eq_getElem hk);rw[e6]at e3';have HV:=Lib.hid hvk;have hv1:vk.oneCell'=true:=by obtain⟨_,_,rfl,_⟩:=hvk;rfl
    have HS:=Lib.hid (An ps k hk);have HLk:=Lib.hid (And.intro (HL.out k) (HL.out (k+1)));clear hvk e4 e6 hC;generalize hlk:ps[k].2=lk at*;clear hlk;go_wp2_with fail;have b1:Below w.heap.size w (wr.alloc (.cells (#[lk.length,vk]) 129)):=HB.out.alloc hws _;have hO1:=HO.out.below ((Below.refl wr.heap.size wr).alloc (Nat.le_refl _) (.cells (#[lk.length,vk]) 129));have hll:lk.length≤19:=by have:=HLk.out.2;rw[HS.out,List.length_append]at this;omega
    refine(EM lk aa vk _ (HV.out.below b1)).mono ?_;rintro e w2⟨v2,rfl,ho,hb⟩;have b2:=b1.trans (hb.mono ix);have B2:=Lib.hid b2;have hO2:=hO1.below (hb.mono (Nat.le_refl _));have hs2:=b2.size;clear b1 b2 hO1;have HO2:=Lib.hid hO2;have HOv:=Lib.hid ho;clear hO2 ho hb;have hsl:=HOv.out.sl;rcases HOv.out.1.2 with⟨rfl,h0⟩|⟨g2,cap2,cur,rfl,-⟩;·
     have hz:lk=[]:=by simpa using h0
     subst hz;have hno:=HNo.out w2 w2 _ _ _ _ HO2.out;clear hsl;go_wp2_with(at_builtin;refine Lib.wpList_append_run _ rfl (.tmp 12) (.tmp 14) 55 55 rfl _ V rfl rfl _ _ (hno _ _) ?_);go_roundg m;case measure=>omega
     case rel=>exact⟨k+1,ay,aa,Lib.hid ⟨by rw[HS.out,List.append_nil];exact HO2.out,B2.out⟩⟩
    ·simp only[List.length_map]at hsl⊢;have HSL:=Lib.hid hsl;clear hsl;go_wp2_with(at_builtin;refine pD rfl (.tmp 12) (.tmp 14) rfl w.heap.size _ _ (lk.map aJ) rfl HO2.out _ _ _ rfl HSL.out (by have:=HLk.out.1;simp;omega) hs2 ?_;intro v' w3 hown hbel hnil;have HWN:=Lib.hid (And.intro hown hbel);clear hown hbel hnil);go_roundg m;case measure=>omega
     case rel=>exact⟨k+1,ay,aa,Lib.hid ⟨by rw[HS.out,List.map_append];exact HWN.out.1,B2.out.trans HWN.out.2⟩⟩
theorem EC(ps:List (Nat×List Nat))(hn:∀(i:Nat)(p:Nat×List Nat),ps[i]? =some p→p.1=p.2.length)(ht:(ps.map fun p=>p.2.length).sum≤19)(CS:List (Array Value))(inn:Int)(vS:Value)(aL:Option Addr)(nL cL:Nat)(w:World)(h:Sl w vS 2 CS)(he:i5 ie w CS ps)(hl:ps.length≤100):Calls Tryz.prog 28 #[.agg (#[inn,Z,V,V,vS,E aL nL cL])] w fun e w'=>∃(v':Value)(D:List Nat),e= .returned (.agg #[V,V,v'])∧D.length=(ps.map fun p=>p.2.length).sum∧Sl w' v' 10 (D.map aJ)∧(∀q,v'.ownBlock=some q→w.heap.size≤q)∧Below w.heap.size w w':=by
 have HJ:=Lib.hid (fun(W:World)(b:Below w.heap.size w W)=>yE ps hn ht CS vS W (h.below b) (he.mono fun _ _ x=>x.below b) hl);have hvS:vS.oneCell'=true:=by obtain⟨_,_,rfl,_⟩:=h;rfl
 clear h he hn;go_enter Tryz.func28,Tryz.ntmps28;go_wp2_with fail;obtain⟨WG,hWG⟩:∃W,(w.alloc (.cells (#[inn,Z,V,V,vS,E aL nL cL]) 47)).alloc (.cells (#[V,V,V]) 57)=W:=⟨_,rfl⟩;have bRg0:aK WG (w.heap.size) 47 6=true:=gu;have bVg0:aH WG (w.heap.size)=(#[inn,Z,V,V,vS,E aL nL cL]:AV):=gu;have bCg0:=aI bRg0;have bLg0:(w.heap.size)<WG.heap.size:=Av;have bRg1:aK WG (w.heap.size+1) 57 3=true:=gu;have bVg1:aH WG (w.heap.size+1)=(#[V,V,V]:AV):=gu;have bCg1:=aI bRg1;have bLg1:(w.heap.size+1)<WG.heap.size:=Av;have bw:Below w.heap.size w WG:=Pc;generalize(w.alloc (.cells (#[inn,Z,V,V,vS,E aL nL cL]) 47)).alloc (.cells (#[V,V,V]) 57)=W0 at*;subst hWG;refine cN 10 af (aw W0) [0,1,3,4,6,7] 5 af af (fun _ _ d _ _ h=>bo) ⟨(Below.refl _ _).drew⟩ ?_;simp only[PL];apply ae;·exact iv
 try simp only[PT]
 apply ae;·exact iv
 try simp only[PT]
 apply ae;·exact iv
 try simp only[PT]
 apply ae;·exact iv
 try simp only[PT]
 apply ae;·exact iv
 try simp only[PT]
 apply ae;·exact iv
 try simp only[PT]
 refine aC ?_;refine bg 2 af af ?_;simp only[aU];go_wp2_with(go_at_call 38;refine(lz _).mono ?_;rintro e wa⟨rfl,hb⟩;have hka:=aw.mk hb;have xxa:=cZ hka.out;(try have zza:=zs w.heap.size wa.heap.size);clear hb);refine am ⟨LX⟩ ?_;refine bg 5 af af ?_;simp only[aU];go_wp2_with(go_at_call 39;refine(lA _).mono ?_;rintro e wb⟨rfl,hb⟩;have hkb:=aw.mk hb;have xxb:=cZ hkb.out;(try have zzb:=zs w.heap.size wb.heap.size);clear hb);refine am ⟨LX⟩ ?_;refine bg 8 af af ?_;simp only[aU];go_wp2_with fail;refine(HJ.out _ (bw.trans (((Below.refl W0.heap.size W0).drew.trans (hka.out.trans (hkb.out.mono hka.out.size))).mono aa))).mono ?_;rintro e wc⟨v8,D,rfl,hD,ho,hb⟩;have hkc:=aw.mk hb;have hz:=fun q(hq:v8.ownBlock=some q)=>(ho.base hq).1;obtain⟨a8,c8,rfl,-⟩:=id ho.sl;have hsl:=ho.sl;simp only[List.length_map]at hz hsl⊢;have HD:=Lib.hid (And.intro hD (And.intro hsl hz));clear hz hsl;have xxc:=cZ hkc.out;(try have zzc:=zs w.heap.size wc.heap.size);clear hb hD ho;go_wp2;refine am ⟨LX⟩ ?_;refine dV af [9] 1 rfl af (fun _ _ d _ _ h=>bo) ⟨LX⟩ ?_;simp only[PL];apply ae;·exact iv
 try simp only[PT]
 refine aC ?_;refine dp 10 rfl af af ?_;simp only[aU];go_wp2_with fail;refine am trivial ?_;refine dX af ?_;go_wp2;refine bodyPost_ret (v:=.agg (#[V,V,E a8 D.length c8])) (aN (t:=57) Tryz.results28 _ _ _ rfl ?_ ?_ sG Fy) rfl ?_;·go_simp
 ·go_simp
 exact⟨_,D,rfl,HD.out.1,HD.out.2.1.upto (T:=(w.heap.size+1)) (aP (ax.refl (w.heap.size+1) _) _) (fun e=>by have:=HD.out.2.2 _ e;omega),(fun q hq=>by have:=HD.out.2.2 q hq;omega),bY⟩
theorem Af(most S:Nat)(vT vG:Value)(h1:vT.oneCell'=true)(h2:vG.oneCell'=true)(ps:List (Nat×List Nat))(hn:∀(i:Nat)(p:Nat×List Nat),ps[i]? =some p→p.1=p.2.length)(ht:(ps.map fun p=>p.2.length).sum≤19)(CS:List (Array Value))(inn:Int)(vS:Value)(aL:Option Addr)(nL cL:Nat)(w:World)(h:Sl w vS 2 CS)(he:i5 ie w CS ps)(hl:ps.length≤100):Calls Tryz.prog 11 #[.agg (#[most,I 4,S,I 64,I 64,J 1,I 1,I 1,I 1,I 64,I 100,I 100,I 1000,I 2,I 64,I 4,inn,Z,V,V,vS,E aL nL cL,vT,vG])] w fun e w'=>∃(v':Value)(D:List Nat),e= .returned (.agg #[V,V,v'])∧D.length=(ps.map fun p=>p.2.length).sum∧Sl w' v' 10 (D.map aJ)∧(∀q,v'.ownBlock=some q→w.heap.size≤q)∧Below w.heap.size w w':=by
 have HJ:=Lib.hid (fun(W:World)(b:Below w.heap.size w W)=>EC ps hn ht CS inn vS aL nL cL W (h.below b) (he.mono fun _ _ x=>x.below b) hl);have hvS:vS.oneCell'=true:=by obtain⟨_,_,rfl,_⟩:=h;rfl
 clear h he hn;go_enter Tryz.func11,Tryz.ntmps11;go_wp2_with fail;refine(HJ.out _ (nO)).mono ?_;rintro e w1⟨v8,D,rfl,hD,ho,hz,hb⟩;have hk:=aw.mk hb;obtain⟨a8,c8,rfl,-⟩:=id ho;simp only[List.length_map]at ho hz⊢;have HD:=Lib.hid (And.intro hD (And.intro ho hz));have xx:=cZ hk.out;(try have zz:=zs w.heap.size w1.heap.size);clear hb hD ho hz;go_wp2;refine bodyPost_ret (v:=.agg (#[V,V,E a8 D.length c8])) (aN (t:=57) Tryz.results11 _ _ _ rfl ?_ ?_ sG Fy) rfl ?_;·go_simp
 ·go_simp
 exact⟨_,D,rfl,HD.out.1,HD.out.2.1.upto (T:=(w.heap.size+1)) (aP (ax.refl (w.heap.size+1) _) _) (fun e=>by have:=HD.out.2.2 _ e;simp at this;omega),(fun q hq=>by have:=HD.out.2.2 q hq;simp at this;omega),bY⟩
end
section
attribute[local go_sem↓]fe eN
attribute[local go_sem]fH ff dC bq eV eW gW gV fz
theorem pN(w:World):w.drew.heap.size=w.heap.size:=id rfl
attribute[local go_sem high]pN
attribute[local simp high]pN
def OX(ps:List (Nat×List Nat))(w:World)(e:Ending)(w':World):Prop:=∃(v':Value)(D:List Nat),e= .returned (.agg #[V,V,v'])∧D.length=(ps.map fun p=>p.2.length).sum∧Sl w' v' 10 (D.map aJ)∧Below w.heap.size w w'
theorem Bd(M:Nat)(C:Array Value)(ps:List (Nat×List Nat))(hn:∀(i:Nat)(p:Nat×List Nat),ps[i]? =some p→p.1=p.2.length)(ht:(ps.map fun p=>p.2.length).sum≤19)(CS:List (Array Value))(hl:CS.length=8)(hx:∀(k:Nat)(h:k<CS.length),C.extract (28+k*4+2) (28+k*4+2+2)=CS[k])(h24:C[24]? =some (.slice none 0 0))(h27:C[27]? =some (.slice none 0 0))(w:World)(hr:aK w M 134 60=true)(hC:aH w M=C)(he:i5 ie w CS ps):Calls Tryz.prog 18 #[H M 0] w (OX ps w):=by
 have hz:=lP hr hC;have hM:=bd hr;have hpl:ps.length=8:=by rw[←he.1];exact hl
 have HJ:=Lib.hid (fun(W:World)(v:Value)(b:Below w.heap.size w W)(h:Sl W v 2 CS)=>yE ps hn ht CS v W h (he.mono fun _ _ x=>x.below b) aa);have HX:=Lib.hid hx;have HCS:∀C'∈CS,∃(i:Int)(a:Option Addr)(n c:Nat),C'=(#[i,E a n c]:AV):=fun C' hC'=>by
  obtain⟨i,hi⟩:=List.mem_iff_getElem?.1 hC';have hil:i<ps.length:=by rw[←he.1];exact(List.getElem?_eq_some_iff.1 hi).1
  obtain⟨v,rfl,⟨_,_,rfl,_⟩⟩:=he.2 i C' _ hi (List.getElem?_eq_getElem hil);exact⟨_,_,_,_,rfl⟩
 have HCS:=Lib.hid HCS;clear he hn hx;go_enter Tryz.func18,Tryz.ntmps18;go_wp2_with fail;have bw:Below w.heap.size w (w.alloc (.cells (#[V,V,V]) 57)):=nO;have bR:aK (w.alloc (.cells (#[V,V,V]) 57)) w.heap.size 57 3=true:=bG;have bV:aH (w.alloc (.cells (#[V,V,V]) 57)) w.heap.size=(#[V,V,V]:AV):=bG;have bC:=aI bR;have bL:=bd bR;obtain⟨hrW,hCW⟩:=cm hr hC bw;generalize(w.alloc (.cells (#[V,V,V]) 57))=W0 at*;go_loopg[3,8]8(fun g s3 s8 wr=>∃k:Nat,s8= .int .i64 k∧k+g=8∧Hid (aV wr W0.heap.size 129 2 s3 (CS.take k)∧Below W0.heap.size W0 wr));case atStart=>exact⟨0,rfl,rfl,Lib.hid ⟨aV.nil _ _ _ _,Below.refl _ _⟩⟩
 case round=>
  obtain⟨k,rfl,hg,HH⟩:=hrel;obtain⟨hO,hB⟩:=HH.out;have hws:=hB.size;obtain⟨hrr,hCr⟩:=cm hrW hCW hB;have hcr:=aI hrr;cases gk with
   |zero=>
    have hk:¬((k:Int)<8):=aa;obtain rfl:k=8:=aa;rw[List.take_of_length_le aa]at hO;have cR:aK wr w.heap.size 57 3=true:=((dJ hB).1 _ _ _ bL).trans bR;have cV:aH wr w.heap.size=(#[V,V,V]:AV):=((dJ hB).2.1 _ bL).trans bV;have cC:=aI cR;have cL:=bd cR;have hMr:=bd hrr;have bw9:Below w.heap.size w wr:=bw.trans (hB.mono bw.size);obtain⟨a9,c9,e9,-⟩:=id hO.sl;have HS9:=Lib.hid hO.sl;subst e9;clear hO hB HH hr hC hrW hCW bR bV bC bL;generalize hv9:Value.slice a9 CS.length c9=v9 at*;generalize hW9:wr=W9 at*;clear hW9 hz;go_wp2_with fail;refine cN 13 af (aw W9) [0,1,2,3,5,6,7,8,10] 5 af af (fun _ _ d _ _ h=>bo) ⟨(Below.refl _ _).drew⟩ ?_;simp only[PL];apply ae;·exact iv
    try simp only[PT]
    apply ae;·exact iv
    try simp only[PT]
    apply ae;·exact iv
    try simp only[PT]
    apply ae;·exact iv
    try simp only[PT]
    apply ae;·exact iv
    try simp only[PT]
    apply ae;·exact iv
    try simp only[PT]
    apply ae;·exact iv
    try simp only[PT]
    apply ae;·exact iv
    try simp only[PT]
    apply ae;·exact iv
    try simp only[PT]
    refine aC ?_;refine bg 4 af af ?_;simp only[aU];go_wp2_with(go_at_call 38;refine(lz _).mono ?_;rintro e wa⟨rfl,hb⟩;have hka:=aw.mk hb;have xxa:=cZ hka.out;(try have zza:=zs w.heap.size wa.heap.size);clear hb);refine am ⟨LX⟩ ?_;refine bg 9 af af ?_;simp only[aU];go_wp2_with(go_at_call 39;refine(lA _).mono ?_;rintro e wb⟨rfl,hb⟩;have hkb:=aw.mk hb;have xxb:=cZ hkb.out;(try have zzb:=zs w.heap.size wb.heap.size);clear hb);refine am ⟨LX⟩ ?_;refine bg 11 af af ?_;simp only[aU];go_wp2_with fail;refine(HJ.out wb v9 (bw9.trans (((Below.refl W9.heap.size W9).drew.trans (hka.out.trans (hkb.out.mono hka.out.size))).mono bw9.size)) (HS9.out.below ((Below.refl W9.heap.size W9).drew.trans (hka.out.trans (hkb.out.mono hka.out.size))))).mono ?_;rintro e wc⟨v8,D,rfl,hD,ho,hb⟩;have hkc:=aw.mk hb;have hz:=fun q(hq:v8.ownBlock=some q)=>(ho.base hq).1;obtain⟨a8,c8,rfl,-⟩:=id ho.sl;have hsl:=ho.sl;simp only[List.length_map]at hz hsl⊢;have HD:=Lib.hid (And.intro hD (And.intro hsl hz));clear hz hsl;have xxc:=cZ hkc.out;(try have zzc:=zs w.heap.size wc.heap.size);clear hb hD ho;go_wp2;refine am ⟨LX⟩ ?_;refine dV af [12] 1 rfl af (fun _ _ d _ _ h=>bo) ⟨LX⟩ ?_;simp only[PL];apply ae;·exact iv
    try simp only[PT]
    refine aC ?_;refine dp 13 rfl af af ?_;simp only[aU];go_wp2_with fail;refine am trivial ?_;refine dX af ?_;go_wp2;refine bodyPost_ret (v:=.agg (#[V,V,E a8 D.length c8])) (aN (t:=57) Tryz.results18 _ _ _ rfl ?_ ?_ sG Fy) rfl ?_;·go_simp
    ·go_simp
    exact⟨_,D,rfl,HD.out.1,HD.out.2.1.upto (T:=w.heap.size) (aP (ax.refl w.heap.size _) _) (fun e=>by have:=HD.out.2.2 _ e;omega),ai (bw9.trans (((((Below.refl W9.heap.size W9).drew.trans (hka.out.trans (hkb.out.mono hka.out.size)))).trans (hkc.out.mono (by have:=hka.out.size;have:=hkb.out.size;omega))).mono bw9.size)) (Nat.le_refl _) _⟩
   |succ m=>
    have hk:(k:Int)<8:=aa;have hkl:k<CS.length:=aa;have hk0:¬((k:Int)<0):=aa;have hk1:0≤(k:Int):=aa;have e1:aR wr ⟨M,28+k*4+2,none⟩ 2=true:=jm hcr (by rw[hCr,hz];omega);have e2:aO wr ⟨M,28+k*4+2,none⟩ 2=CS[k]:=by rw[jn hcr (by rw[hCr,hz];omega),hCr];exact HX.out k hkl
    obtain⟨iE,aE,nE,cE,eE⟩:=HCS.out CS[k] (List.getElem_mem hkl);have e5:=Lib.hid (List.take_succ_eq_append_getElem hkl);have htk:(CS.take k).length≤8:=xN;rw[eE]at e2 e5;clear eE;have HO:=Lib.hid hO;have hk2:=aw.mk hB;have hMr:=bd hrr;clear hO hB HH hrr hCr hcr hr hC hrW hCW bR bV bC;go_wp2_with(at_builtin;refine FF rfl (.tmp 11) (.tmp 19) rfl W0.heap.size _ _ [#[iE,E aE nE cE]] rfl (HO.out.below ((Below.refl _ _).alloc (Nat.le_refl _) _)) _ _ _ rfl (cY wr (#[iE,E aE nE cE]) 129 2 _ rfl rfl rfl) (by exact Nat.le_trans (Nat.add_le_add htk (Nat.le_refl 1)) az) ix ?_;intro v' w3 hown hbel hnil;have HWN:=Lib.hid (And.intro hown hbel);clear hown hbel hnil);go_roundg m;case measure=>omega
    case rel=>exact⟨k+1,ay,aa,Lib.hid ⟨by rw[e5.out];exact HWN.out.1,(hk2.out.alloc hws _).trans HWN.out.2⟩⟩
end
section
attribute[local go_sem↓]dt db eX eF dM dv bv bj
attribute[local go_sem]dT dy jq io eA dO bN bz PM PK
attribute[local go_sem high]ah
attribute[local simp high]ah
theorem EQ(w:World):Calls Tryz.prog 6 #[] w fun e w'=>e= .returned (.agg (#[I 8,I 4,I 4,I 64,I 64,J 1,I 1,I 1,I 1,I 1,I 100,I 100,I 1000,I 2,I 64,I 4]))∧Below w.heap.size w w':=by
 go_enter Tryz.func6,Tryz.ntmps6;go_wp2;refine bodyPost_ret (v:=.agg (#[I 8,I 4,I 4,I 64,I 64,J 1,I 1,I 1,I 1,I 1,I 100,I 100,I 1000,I 2,I 64,I 4])) (aN (t:=29) Tryz.results6 _ _ _ rfl ?_ ?_ A7 OZ) rfl ?_;·go_simp
 ·go_simp
 exact⟨rfl,nO⟩
theorem Ke(i:Nat)(hi:i<16)(w:World):Calls Tryz.prog 7 #[i] w fun e w'=>e= .returned (.agg (#[F,U,J (aM i),I 80]))∧Below w.heap.size w w':=by
 have h0:0≤(i:Int):=aa;have h1:(i:Int)<16:=aa;have e1:IntKind.u64.wrap (i:Int)=(i:Int):=uB;have e2:IntKind.u64.wrap ((i:Int)*65536)=(i:Int)*65536:=uB;have e3:IntKind.u64.wrap (167772161+(i:Int)*65536)=aM i:=by rw[IntKind.wrap_u64];unfold aM Pm.kOf;omega
 go_enter Tryz.func7,Tryz.ntmps7;go_wp2;refine bodyPost_ret (v:=.agg (#[F,U,J (aM i),I 80])) (aN (t:=36) Tryz.results7 _ _ _ rfl ?_ ?_ pg BM) rfl ?_;·go_simp
 ·go_simp
 exact⟨rfl,nO⟩
theorem KX(w:World)(B:Nat)(hB:B≤w.heap.size)(C:Array Value)(t:TypeId)(n:Nat)(hn:C.size=n)(h1:bB C=true):aV (w.alloc (.cells C t)) B t n (G w.heap.size 1 1) [C]:=by have hf:flat [C]=C.toList:=jF;refine⟨?_,fun D hD=>by rw[List.mem_singleton.1 hD];exact⟨hn,h1⟩⟩;rw[hf];exact⟨by simp[hn],.inr ⟨w.heap.size,1,C,ay,hB,(MapKept.heap_alloc w _).1,ay,fZ,by simp[hn],by rw[List.take_of_length_le (by simp[hn])]⟩⟩
theorem II(w:World)(L:List Int)(m:Nat)(hm:L.length=m)(hl:m≤1000):Sl (w.alloc (.cells (L.map (Value.int .i64)).toArray 3)) (G w.heap.size m m) 1 (L.map fun x=>#[I x]):=by
 subst hm;refine⟨_,L.length,ay,ay,fZ,.inr ⟨w.heap.size,0,rfl,ay,fun i C hC=>?_⟩⟩;rw[List.getElem?_map]at hC;obtain⟨x,hx,rfl⟩:=Option.map_eq_some_iff.1 hC;have hcell:(w.alloc (.cells (L.map (Value.int .i64)).toArray 3)).cell? ⟨w.heap.size,i,none⟩=some (.int .i64 x):=by rw[cell_of_row _ _ _ _ 3 (0,0) (MapKept.heap_alloc w _).1];simp[hx]
 have hr:=fO (W:=w.alloc (.cells (L.map (Value.int .i64)).toArray 3)) (p:=⟨w.heap.size,0+i*1,none⟩) (cs:=[x]) (n:=1) rfl (fun k v hv=>by
  cases k with
   |zero=>simp at hv;subst hv;simpa[cF]using hcell
   |succ k=>simp at hv);exact⟨ay,hr.1,hr.2,rfl⟩
theorem Gl{W W':World}{C:Array Value}{l:List (Array Value)}(k:Below W.heap.size W W')(h:qZ W C l):qZ W' C l:=by obtain⟨v,h1,h2⟩:=h;exact⟨v,h1,h2.below k⟩
def CA(W:World)(B:Nat)(C:Array Value)(l:List Nat):Prop:=∃v,C=#[v]∧aV W B 41 12 v (l.map fM)
theorem CA.calls{W:World}{B:Nat}{C:Array Value}{l:List Nat}(h:CA W B C l):qZ W C (l.map fM):=by obtain⟨v,h0,h1⟩:=h;obtain⟨a,c,e,_⟩:=id h1.sl;exact⟨v,h0,a,c,e,fun _=>h1.sl⟩
theorem CA.below{W W':World}{B:Nat}{C:Array Value}{l:List Nat}(h:CA W B C l)(k:Below W.heap.size W W'):CA W' B C l:=by obtain⟨v,h0,h1⟩:=h;exact⟨v,h0,h1.below k⟩
theorem CA.beside{W W':World}{B B':Nat}{C:Array Value}{l:List Nat}{v:Value}{L:List (Array Value)}(h:CA W B C l)(h':aV W B' 32 1 v L)(hw:∀q,q<W.heap.size→v.ownBlock≠some q→W'.heap[q]? =W.heap[q]?):CA W' B C l:=by obtain⟨v,h0,h⟩:=h;exact⟨v,h0,h.beside h' az hw⟩
theorem AA(i:Nat)(hi:i<16):fM (16+i)=(#[I 1,F,U,J (aM i),I 80,F,U,U,Z,Z,Z,F]:AV):=by
 have e:aM (16+i)=aM i:=by unfold aM Pm.kOf;omega
 unfold fM Pm.tOf;rw[if_neg aa,e];rfl
def ut(ls:List (List Nat))(B k:Nat)(W0 W:World)(v:Value):Prop:=∃CC:List (Array Value),CC.length=k∧aV W B 32 1 v CC∧(∀(i:Nat)(C:Array Value)(l:List Nat),CC[i]? =some C→ls[i]? =some l→CA W B C l)∧Below B W0 W
theorem Bc{ls:List (List Nat)}{B k:Nat}{W0 W W':World}{v v':Value}{CC:List (Array Value)}{C:Array Value}{l:List Nat}(hl:CC.length=k)(h1:∀(i:Nat)(C:Array Value)(l:List Nat),CC[i]? =some C→ls[i]? =some l→CA W B C l)(hO:aV W B 32 1 v CC)(hO':aV W' B 32 1 v' (CC++[C]))(hs:∀q,q<W.heap.size→v.ownBlock≠some q→W'.heap[q]? =W.heap[q]?)(hC:CA W B C l)(hk:ls[k]? =some l)(hb:Below B W0 W'):ut ls B (k+1) W0 W' v':=by
 refine⟨CC++[C],by simp[hl],hO',fun i D m hD hm=>?_,hb⟩;rw[List.getElem?_append]at hD;split at hD;·exact(h1 i D m hD hm).beside hO hs
 ·rename_i h;obtain rfl:i=k:=by have:=(List.getElem?_eq_some_iff.1 hD).1;simp at this;omega
  rw[hl,Nat.sub_self]at hD;simp only[List.getElem?_cons_zero,Option.some.injEq]at hD;rw[hk]at hm;cases hm;subst hD;exact hC.beside hO hs
theorem ym{C:Array Value}{i:Nat}{a b:Value}(h1:C[i]? =some a)(h2:C[i+1]? =some b):C.extract i (i+2)=#[a,b]:=by
 have hs:=(Array.getElem?_eq_some_iff.1 h2).1;apply Array.ext_getElem?;intro k;rw[Array.getElem?_extract];rcases k with _|_|k;·simp[h1];omega
 ·simp[h2];omega
 ·simp;omega
theorem Hm(sl:Value)(k:Nat)(h:k<([#[Z,V],#[I 1,sl],#[Z,V],#[Z,V],#[Z,V],#[Z,V],#[Z,V],#[Z,V]]:List (Array Value)).length):(((((((jl.setIfInBounds 22 (.int .i32 1)).setIfInBounds 32 (.int .i32 1)).setIfInBounds 16 (I 1)).setIfInBounds 35 sl).setIfInBounds 34 (I 1)).setIfInBounds 32 (.int .i32 0)).setIfInBounds 22 (.int .i32 0)).extract (28+k*4+2) (28+k*4+2+2)=([#[Z,V],#[I 1,sl],#[Z,V],#[Z,V],#[Z,V],#[Z,V],#[Z,V],#[Z,V]]:List (Array Value))[k]:=by
 have e:k=0∨k=1∨k=2∨k=3∨k=4∨k=5∨k=6∨k=7:=by simp at h;omega
 rcases e with rfl|rfl|rfl|rfl|rfl|rfl|rfl|rfl;·exact ym (mN) (mN)
 ·exact ym (by rw[br az,br az,wF (by simp[iN])]) (by rw[br az,br az,br az,wF (by simp[iN])])
 ·exact ym (mN) (mN)
 ·exact ym (mN) (mN)
 ·exact ym (mN) (mN)
 ·exact ym (mN) (mN)
 ·exact ym (mN) (mN)
 ·exact ym (mN) (mN)
theorem Hn:Aj jl:=⟨⟨rfl,rfl,rfl,rfl,rfl⟩,⟨_,rfl⟩,⟨_,rfl⟩,⟨_,rfl⟩,rfl⟩
theorem KH:jl.extract 0 16=(#[I 2,I 4,I 4,I 64,I 64,J 1,I 1,I 1,I 1,I 64,I 100,I 100,I 1000,I 2,I 64,I 4]:AV):=af
theorem Bm{W:World}{sl:Value}(h:Sl W sl 10 [aJ 16]):i5 ie W [#[Z,V],#[I 1,sl],#[Z,V],#[Z,V],#[Z,V],#[Z,V],#[Z,V],#[Z,V]] [(0,[]),(1,[16]),(0,[]),(0,[]),(0,[]),(0,[]),(0,[]),(0,[])]:=by
 refine⟨rfl,fun i C x h1 h2=>?_⟩;have hi:=(List.getElem?_eq_some_iff.1 h1).1;have e:i=0∨i=1∨i=2∨i=3∨i=4∨i=5∨i=6∨i=7:=by simp at hi;omega
 rcases e with rfl|rfl|rfl|rfl|rfl|rfl|rfl|rfl<;>(simp at h1 h2;subst h1 h2)<;>first|exact⟨sl,rfl,h⟩|exact⟨V,rfl,Sl.nil _ _⟩
theorem KY:PA 0 ⟨ld Md,⟨gF true [],(gF false []:Int)+(je 2 []:Int),none,none,List.replicate 4 (0,[]),List.replicate 6 (0,[])⟩,[[fM 16],[fM 17],[fM 18]].map zT,[]⟩:=⟨az,rfl,⟨[],.nil,az,af⟩,af,rfl⟩
theorem MP{k:Nat}{x:Wo}{tu:Nat→Option Oq}(h:PA k x)(he:k=500∨(pB 4 [1,2,0,1,2,0] PA (fun k x tu=>PA k x∧tu=xH k) k x tu∧ef x tu x.ts.length=[])):PA 43 x:=by
 have hk:=h.kl;rcases he with rfl|⟨hr,hon⟩;·omega
 ·obtain⟨-,rfl⟩:=hr.q;rw[h.on]at hon;rcases Nat.lt_or_ge k 43 with q|q;·have:=gE Mc q;simp only[Bool.and_eq_true,decide_eq_true_eq]at this;rw[hon]at this;cases this.1.1
  ·obtain rfl:k=43:=aa;exact h
theorem Js{x:Wo}(h:PA 43 x)(i:Nat)(t:Tk)(ht:x.ts[i]? =some t):t.calls.length≤t.nth:=by
 obtain⟨hi,rfl⟩:=h.tk ht;match i,hi with
  |0,_=>decide
  |1,_=>decide
  |2,_=>decide
theorem FL{x:Wo}(h:PA 43 x){R:Nat→Prop}(X:Array Value)(w:World)(hX:nH R w X x):Calls Tryz.prog 11 #[.agg X] w fun e w'=>∃(v':Value)(D:List Nat),e= .returned (.agg #[V,V,v'])∧D.length=2∧Sl w' v' 10 (D.map aJ)∧Below w.heap.size w w':=by
 obtain⟨l,-,-,hm⟩:=h.m;have hK:=h.K;obtain⟨K,m,ts,lg⟩:=x;simp only at hm hK;rw[M7]at hm;subst hm hK;obtain⟨CM,vT,vG,rfl,-,-,⟨sb,sk,vS,vL,rfl,hb,hk,⟨CS,hS,eS⟩,⟨CL,hL,-⟩⟩,⟨_,hT,-⟩,⟨_,hG,-⟩⟩:=hX;rw[show sb= .slice none 0 0 from hb,show sk= .slice none 0 0 from hk];obtain⟨aL,cL,rfl,-⟩:=id hL.1;have he:i5 ie w CS [(0,[]),(1,[16]),(0,[]),(1,[17])]:=⟨eS.1,fun i C s h1 h2=>by
  have hi:=(List.getElem?_eq_some_iff.1 h2).1;have e:i=0∨i=1∨i=2∨i=3:=by simp at hi;omega
  rcases e with rfl|rfl|rfl|rfl<;>cases h2;·obtain⟨v,e,q⟩:=eS.2 0 C (0,[]) h1 rfl;exact⟨v,e,q.1⟩
  ·obtain⟨v,e,q⟩:=eS.2 1 C (1,[aJ 16]) h1 rfl;exact⟨v,e,q.1⟩
  ·obtain⟨v,e,q⟩:=eS.2 2 C (0,[]) h1 rfl;exact⟨v,e,q.1⟩
  ·obtain⟨v,e,q⟩:=eS.2 3 C (1,[aJ 17]) h1 rfl;exact⟨v,e,q.1⟩⟩;refine Calls.mono (Af 2 4 vT vG (by obtain⟨_,_,rfl,_⟩:=hT.1;rfl) (by obtain⟨_,_,rfl,_⟩:=hG.1;rfl) [(0,[]),(1,[16]),(0,[]),(1,[17])] (fun i p hp=>?_) az CS 2 vS aL CL.length cL w hS.1 he az) ?_;·
  have hi:=(List.getElem?_eq_some_iff.1 hp).1;have e:i=0∨i=1∨i=2∨i=3:=by simp at hi;omega
  rcases e with rfl|rfl|rfl|rfl<;>cases hp<;>rfl
 ·rintro e w'⟨v',D,e1,e2,e3,-,e4⟩;exact⟨v',D,e1,e2,e3,e4⟩
theorem FM(w:World):Calls Tryz.prog 5 #[] w fun e w'=>e= .returned Y∧Below w.heap.size w w':=by
 go_enter Tryz.func5,Tryz.ntmps5;go_wp2_with fail;refine(EQ _).mono ?_;rintro e w1⟨rfl,hb⟩;have hs1:=hb.size;have HB1:=Lib.hid hb;clear hb;have bw0:Below w.heap.size w (w1.alloc (.cells (#[I 2,I 4,I 4,I 64,I 64,J 1,I 1,I 1,I 1,I 64,I 100,I 100,I 1000,I 2,I 64,I 4]) 29)):=HB1.out.alloc hs1 _;have bRg0:aK (w1.alloc (.cells (#[I 2,I 4,I 4,I 64,I 64,J 1,I 1,I 1,I 1,I 64,I 100,I 100,I 1000,I 2,I 64,I 4]) 29)) (w1.heap.size) 29 16=true:=bG;have bVg0:aH (w1.alloc (.cells (#[I 2,I 4,I 4,I 64,I 64,J 1,I 1,I 1,I 1,I 64,I 100,I 100,I 1000,I 2,I 64,I 4]) 29)) (w1.heap.size)=(#[I 2,I 4,I 4,I 64,I 64,J 1,I 1,I 1,I 1,I 64,I 100,I 100,I 1000,I 2,I 64,I 4]:AV):=bG;have bCg0:=aI bRg0;have bLg0:=bd bRg0;go_wp2_with fail;generalize(w1.alloc (.cells (#[I 2,I 4,I 4,I 64,I 64,J 1,I 1,I 1,I 1,I 64,I 100,I 100,I 1000,I 2,I 64,I 4]) 29))=W0 at*;generalize w1.heap.size=r1 at*;go_loopg[2,3]3(fun g s2 s3 wr=>∃k:Nat,s3= .int .i64 k∧k+g=3∧Hid (ut [[16],[17],[18]] W0.heap.size k W0 wr s2));case atStart=>exact⟨0,rfl,rfl,Lib.hid ⟨[],rfl,aV.nil _ _ _ _,ay,Below.refl _ _⟩⟩
 case round=>
  obtain⟨k,rfl,hg,HH⟩:=hrel;obtain⟨CC,hCC,hO,hA,hB⟩:=HH.out;have HCC:=Lib.hid hCC;have HO:=Lib.hid hO;have HA:=Lib.hid hA;have hkB:=aw.mk hB;have hws:=hB.size;clear HH;cases gk with
   |zero=>
    have hk:¬((k:Int)<3):=aa;obtain rfl:k=3:=aa;obtain⟨a2,c2,e2,-⟩:=id hO.sl;subst e2;rw[hCC]at HO⊢;have xr:=dJ hB;have bRr0:aK wr (r1) 29 16=true:=(xr.1 _ _ _ bLg0).trans bRg0;have bVr0:aH wr (r1)=(#[I 2,I 4,I 4,I 64,I 64,J 1,I 1,I 1,I 1,I 64,I 100,I 100,I 1000,I 2,I 64,I 4]:AV):=(xr.2.1 _ bLg0).trans bVg0;have bCr0:=aI bRr0;have bLr0:=bd bRr0;have HCls:=Lib.hid (show i5 qZ wr CC [[fM 16],[fM 17],[fM 18]]from⟨by rw[hCC];rfl,fun i C l h1 h2=>by obtain⟨l',h3,rfl⟩:=Option.map_eq_some_iff.1 (show(([[16],[17],[18]]:List (List Nat))[i]?).map (·.map fM)=some l by rw[←List.getElem?_map];exact h2);exact(hA i C l' h1 h3).calls⟩);have hcell0:∃g,a2=some ⟨g,0,none⟩∧g<wr.heap.size∧∃v0,wr.cell? ⟨g,0,none⟩=some v0∧Sl wr v0 12 [fM 16]:=by
     obtain⟨g,o,v,e,hg,hc,hs⟩:=nU (ls:=[[fM 16],[fM 17],[fM 18]]) HO.out.sl HCls.out (k:=0) az;have hs:=hs.choose_spec.choose_spec.2 ay;subst e;have ho:o=0:=by
      obtain⟨⟨_,h2⟩,_⟩:=HO.out;rcases h2 with⟨h2,_⟩|⟨q,_,_,h2,_⟩;·simp at h2
      ·simp only[Value.slice.injEq,Option.some.injEq,Addr.mk.injEq]at h2;exact h2.1.2.1
     subst ho;exact⟨g,rfl,hg,v,uH,hs⟩
    obtain⟨gl,rfl,hgl,v0,hv0,hs0⟩:=hcell0;obtain⟨a0,c0,e0,_,_,h0⟩:=id hs0;simp only[List.length_singleton,List.length_cons,List.length_nil,Nat.zero_add]at e0;subst e0;have hel0:∃g0 o0,a0=some ⟨g0,o0,none⟩∧g0<wr.heap.size∧aR wr ⟨g0,o0,none⟩ 12=true∧aO wr ⟨g0,o0,none⟩ 12=(#[I 1,F,U,J (aM 16),I 80,F,U,U,Z,I (Pm.tOf 16),Z,F]:AV):=by
     rcases h0 with⟨_,h0⟩|⟨g0,o0,rfl,hg0,h0⟩;·simp at h0
     ·have:=h0 0 (fM 16) ay;simp only[Nat.zero_mul,Nat.add_zero]at this;exact⟨g0,o0,rfl,hg0,this.is,this.of⟩
    obtain⟨g0,o0,rfl,hg0,hi0,hr0⟩:=hel0;have bwr:Below w.heap.size w wr:=bw0.trans (hB.mono bw0.size);have HNW:=Lib.hid (fun(W:World)(b:Below wr.heap.size wr W)=>(show Calls Tryz.prog 8 #[.agg (#[I 2,I 4,I 4,I 64,I 64,J 1,I 1,I 1,I 1,I 64,I 100,I 100,I 1000,I 2,I 64,I 4]),.agg (#[V,V,V]),G gl 3 c2] W _ from DG Md none none [] [] [] Qb ⟨az,az⟩ (fun _ h=>ly) rfl rfl az az az 4 rfl [[fM 16],[fM 17],[fM 18]] az az CC (R:=fun _=>False) _ _ _ _ W rfl rfl (Sl.nil _ _) (HO.out.sl.below b) (HCls.out.mono fun _ _ x=>Gl b x)));clear xr hA hO hB HO HA HCls hs0 h0 hCC HCC hkB bw0 bRg0 bVg0 bCg0 bLg0;generalize wr=Wa at*;go_wp2_with fail;refine(HNW.out Wa (Below.refl _ _)).mono ?_;rintro e w4⟨⟨X,sh,rfl,hX,hq1,hq2,hq3⟩,hb⟩;obtain rfl:=Co hq1 hq2 hq3;have hXz:=hX.size.1;have hXo:=hX.size.2;have xs:=dJ hb;have bRs0:aK w4 (r1) 29 16=true:=(xs.1 _ _ _ bLr0).trans bRr0;have bVs0:aH w4 (r1)=(#[I 2,I 4,I 4,I 64,I 64,J 1,I 1,I 1,I 1,I 64,I 100,I 100,I 1000,I 2,I 64,I 4]:AV):=(xs.2.1 _ bLr0).trans bVr0;have bCs0:=aI bRs0;have bLs0:=bd bRs0;have bw4:Below Wa.heap.size Wa w4:=hb;have hs4:=hb.size;have HX:=Lib.hid (dd (mM hX) (Kp.below ((Below.refl w4.heap.size w4).alloc (Nat.le_refl _) (.cells X 51))) (fun q hq=>hq));clear hX hb xs HNW hq1 hq2 hq3;have W6l:Below w4.heap.size w4 ((w4.alloc (.cells X 51)).alloc (.cells ((([1,2,0,1,2,0]:List Int).map (Value.int .i64)).toArray) 3)):=(((Below.refl w4.heap.size w4).alloc (Nat.le_refl _) _)).alloc ay _;have HV:=Lib.hid (Fp.of (II (w4.alloc (.cells X 51)) [1,2,0,1,2,0] 6 rfl az));have HX6:=Lib.hid (dd HX.out (Kp.below ((Below.refl _ _).alloc (Nat.le_refl _) (.cells ((([1,2,0,1,2,0]:List Int).map (Value.int .i64)).toArray) 3))) (fun q hq=>hq));have HRun:=Lib.hid (PU 4 az az 500 az [1,2,0,1,2,0] az PA (fun k x tu=>PA k x∧tu=xH k) (fun k x _ h=>⟨xH k,h.run⟩) _ KY _ X _ HV.out HX6.out);have bR60:aK ((w4.alloc (.cells X 51)).alloc (.cells ((([1,2,0,1,2,0]:List Int).map (Value.int .i64)).toArray) 3)) (w4.heap.size) 51 24=true:=bG;have bV60:aH ((w4.alloc (.cells X 51)).alloc (.cells ((([1,2,0,1,2,0]:List Int).map (Value.int .i64)).toArray) 3)) (w4.heap.size)=X:=bG;have hs6:((w4.alloc (.cells X 51)).alloc (.cells ((([1,2,0,1,2,0]:List Int).map (Value.int .i64)).toArray) 3)).heap.size=w4.heap.size+1+1:=ay;have Hs6:=Lib.hid hs6;clear hs6;go_wp2_with fail;have hm6:(#[I 1,I 2,Z,I 1,I 2,Z]:Array Value)=((([1,2,0,1,2,0]:List Int).map (Value.int .i64)).toArray):=rfl;have hsw:(w4.alloc (.cells X 51)).heap.size=w4.heap.size+1:=ay;rw[hsw]at HRun;rw[hm6];clear hm6 hsw;generalize(w4.alloc (.cells X 51)).alloc (.cells ((([1,2,0,1,2,0]:List Int).map (Value.int .i64)).toArray) 3)=W6 at*;refine HRun.out.mono ?_;rintro e w7⟨X7,x7,k7,tu7,rfl,hX7,hF7,hon,hk7,hb⟩;have hX7z:=hX7.size.1;have hX7o:=hX7.size.2;have xt:=dJ hb;have bR70:aK w7 (w4.heap.size) 51 24=true:=(xt.1 _ _ _ (bd bR60)).trans bR60;have bC70:=aI bR70;have bV70:aH w7 (w4.heap.size)=X:=(xt.2.1 _ (bd bR60)).trans bV60;have hfit7:bU w7 (w4.heap.size) 0 24=true:=GJ bR70 aa;have bL70:=bd bR70;have xu:=dJ (W6l.trans (hb.mono W6l.size));have bRt0:aK w7 (r1) 29 16=true:=(xu.1 _ _ _ bLs0).trans bRs0;have bVt0:aH w7 (r1)=(#[I 2,I 4,I 4,I 64,I 64,J 1,I 1,I 1,I 1,I 64,I 100,I 100,I 1000,I 2,I 64,I 4]:AV):=(xu.2.1 _ bLs0).trans bVs0;have bCt0:=aI bRt0;have bLt0:=bd bRt0;have b47:Below w4.heap.size w4 w7:=W6l.trans (hb.mono W6l.size);have b8:Below Wa.heap.size Wa (w7.setRow (w4.heap.size) X7):=ai (bw4.trans (b47.mono bw4.size)) aa _;have HPA:=Lib.hid (MP hF7 hon);have HWA:=Lib.hid (dd hX7 (Kp.setRow (T:=w4.heap.size) (C:=X7) (fun e=>by have:=Hs6.out;rcases e with⟨_,e⟩|e<;>omega)) (fun q hq=>hq));have hn14:r1≠w4.heap.size:=aa;have hn14':¬(r1=w4.heap.size):=aa;have hn41:¬(w4.heap.size=r1):=aa;clear hX7 hF7 hon hk7 hb xt xu b47 HRun HX6 HV HX W6l Hs6;go_wp2_with fail;have bR80:aK (w7.setRow (w4.heap.size) X7) r1 29 16=true:=(gf _ _ _ _ _ _ hn14).trans bRt0;have bV80:aH (w7.setRow (w4.heap.size) X7) r1=(#[I 2,I 4,I 4,I 64,I 64,J 1,I 1,I 1,I 1,I 64,I 100,I 100,I 1000,I 2,I 64,I 4]:AV):=(gO _ _ _ _ hn14).trans bVt0;have bR84:aK (w7.setRow (w4.heap.size) X7) (w4.heap.size) 51 24=true:=fd _ bR70 hX7z;have bV84:aH (w7.setRow (w4.heap.size) X7) (w4.heap.size)=X7:=fa _ bC70;have hv8:(w7.setRow (w4.heap.size) X7).cell? ⟨gl,0,none⟩=some (.slice (some ⟨g0,o0,none⟩) 1 c0):=(b8.cell (p:=⟨gl,0,none⟩) hgl).trans hv0;have hi8:aR (w7.setRow (w4.heap.size) X7) ⟨g0,o0,none⟩ 12=true:=((dJ b8).2.2.1 _ _ _ hg0).trans hi0;have hr8:aO (w7.setRow (w4.heap.size) X7) ⟨g0,o0,none⟩ 12=(#[I 1,F,U,J (aM 16),I 80,F,U,U,Z,I (Pm.tOf 16),Z,F]:AV):=((dJ b8).2.2.2.1 _ _ _ hg0).trans hr0;have bw8:Below w.heap.size w (w7.setRow (w4.heap.size) X7):=bwr.trans (b8.mono bwr.size);have hgl8:gl<(w7.setRow (w4.heap.size) X7).heap.size:=by have:=b8.size;omega
    have hg08:g0<(w7.setRow (w4.heap.size) X7).heap.size:=by have:=b8.size;omega
    clear b8 hv0 hi0 hr0 bwr bR70 bC70 bV70 bL70 hfit7 bRt0 bVt0 bCt0 bLt0 hgl hg0;generalize w7.setRow (w4.heap.size) X7=W8 at*;generalize w4.heap.size=r4 at*;have HOv:=Lib.hid (fun(W:World)(b:Below W8.heap.size W8 W)=>tJ x7 (Js HPA.out) (by rw[HPA.out.t];decide) X7 W (dd HWA.out (Kp.below b) (fun q hq=>hq)));have HSt:=Lib.hid (fun(W:World)(b:Below W8.heap.size W8 W)=>FL HPA.out X7 W (dd HWA.out (Kp.below b) (fun q hq=>hq)));clear HPA HWA;refine(Hi _).mono ?_;rintro e w9⟨M,rfl,hrM,hCM,hMg,hb⟩;have b9:Below W8.heap.size W8 w9:=hb;have x9:=dJ hb;have bR94:aK w9 r4 51 24=true:=(x9.1 _ _ _ (bd bR84)).trans bR84;have bV94:=(x9.2.1 _ (bd bR84)).trans bV84;have bC94:=aI bR94;have hv9:w9.cell? ⟨gl,0,none⟩=some (.slice (some ⟨g0,o0,none⟩) 1 c0):=(b9.cell (p:=⟨gl,0,none⟩) hgl8).trans hv8;have hi9:aR w9 ⟨g0,o0,none⟩ 12=true:=(x9.2.2.1 _ _ _ hg08).trans hi8;have hr9:aO w9 ⟨g0,o0,none⟩ 12=(#[I 1,F,U,J (aM 16),I 80,F,U,U,Z,I (Pm.tOf 16),Z,F]:AV):=(x9.2.2.2.1 _ _ _ hg08).trans hr8;have HDo:=Lib.hid (Kz M 16 zj jl Hn KH w9 hrM hCM);have hM4:r4<M:=by have:=bd bR84;omega
    clear hb x9 hrM hCM hv8 hi8 hr8;go_wp2_with fail;refine HDo.out.mono ?_;rintro e w10⟨sl,rfl,hu,hr10,hC10,ho⟩;have b10:Below W8.heap.size W8 w10:=b9.trans (hu.below hMg b9.size);have x10:=g7 hu;have bR104:aK w10 r4 51 24=true:=(x10.1 _ _ _ (bd bR94) aa).trans bR94;have bV104:=(x10.2.1 _ (bd bR94) aa).trans bV94;have bC104:=aI bR104;have HSl:=Lib.hid ho.sl;clear hu x10 ho bR94 bV94 bC94 hv9 hi9 hr9 HDo b9 bR80 bV80 bR84 bV84;go_wp2_with fail;refine(HOv.out w10 b10).mono ?_;rintro e w11⟨rfl,hb⟩;have b11:Below W8.heap.size W8 w11:=b10.trans (hb.mono b10.size);have x11:=dJ hb;have bR114:aK w11 r4 51 24=true:=(x11.1 _ _ _ (bd bR104)).trans bR104;have bV114:=(x11.2.1 _ (bd bR104)).trans bV104;have bC114:=aI bR114;obtain⟨hr11,hC11⟩:=cm hr10 hC10 hb;have HSl11:=Lib.hid (HSl.out.below hb);clear hb x11 bR104 bV104 bC104 HSl HOv b10 hr10 hC10;go_wp2_with fail;refine(HSt.out w11 b11).mono ?_;rintro e w12⟨v12,D,rfl,hD,hs,hb⟩;have b12:Below W8.heap.size W8 w12:=b11.trans (hb.mono b11.size);obtain⟨a12,c12,e12,-⟩:=id hs;rw[List.length_map,hD]at e12;subst e12;obtain⟨hr12,hC12⟩:=cm hr11 hC11 hb;have HLS:=Lib.hid (Bd M _ [(0,[]),(1,[16]),(0,[]),(0,[]),(0,[]),(0,[]),(0,[]),(0,[])] (by intro i p h;have hi:=(List.getElem?_eq_some_iff.1 h).1;have e:i=0∨i=1∨i=2∨i=3∨i=4∨i=5∨i=6∨i=7:=(by simp at hi;omega);rcases e with rfl|rfl|rfl|rfl|rfl|rfl|rfl|rfl<;>(simp at h;subst h;rfl)) az [#[Z,V],#[I 1,sl],#[Z,V],#[Z,V],#[Z,V],#[Z,V],#[Z,V],#[Z,V]] rfl (Hm sl) (mN) (mN) w12 hr12 hC12 (Bm (HSl11.out.below hb)));clear hD hs hb hr11 hC11 hr12 hC12 HSl11 HSt b11;go_wp2_with fail;refine HLS.out.mono ?_;rintro e w13⟨v13,D2,rfl,hD2,hs2,hb⟩;have b13:Below w.heap.size w w13:=bw8.trans ((b12.trans (hb.mono b12.size)).mono bw8.size);obtain⟨a13,c13,e13,-⟩:=id hs2;rw[List.length_map,hD2]at e13;subst e13;clear hD2 hs2 hb HLS b12;go_wp2;go_ret;exact⟨rfl,b13⟩
   |succ m=>
    have hk:(k:Int)<3:=aa;have hk3:k<3:=aa;have hls:([[16],[17],[18]]:List (List Nat))[k]? =some [16+k]:=by have:k=0∨k=1∨k=2:=aa;rcases this with rfl|rfl|rfl<;>rfl
    have hcz:=AA k aa;have HCZ:=Lib.hid hcz;clear hcz hO hA hB hCC;go_wp2_with fail;refine(Ke k aa _).mono ?_;rintro e w2⟨rfl,hb⟩;have hk2:=aw.mk hb;have hs2:=hb.size;have hbW:Below W0.heap.size W0 w2:=hkB.out.trans (hb.mono hws);have HO2:=Lib.hid ((HO.out.below hb).below ((Below.refl w2.heap.size w2).alloc (Nat.le_refl _) (.cells (#[I 1,F,U,J (aM k),I 80,F,U,U,Z,Z,Z,F]) 41)));have HO3:=Lib.hid (HO2.out.below ((Below.refl _ _).alloc (Nat.le_refl _) (.cells #[G w2.heap.size 1 1] 32)));have HC1:=Lib.hid ((KX w2 W0.heap.size aa (#[I 1,F,U,J (aM k),I 80,F,U,U,Z,Z,Z,F]) 41 12 rfl rfl).below ((Below.refl _ _).alloc (Nat.le_refl _) (.cells #[G w2.heap.size 1 1] 32)));have HAA:=Lib.hid (fun(i:Nat)(C:Array Value)(l:List Nat)(h1:CC[i]? =some C)(h2:([[16],[17],[18]]:List (List Nat))[i]? =some l)=>((((HA.out i C l h1 h2).below hb).below ((Below.refl w2.heap.size w2).alloc (Nat.le_refl _) (.cells (#[I 1,F,U,J (aM k),I 80,F,U,U,Z,Z,Z,F]) 41))).below ((Below.refl _ _).alloc (Nat.le_refl _) (.cells #[G w2.heap.size 1 1] 32))));clear hb;go_wp2_with(at_builtin;refine MJ rfl (.tmp 16) (.tmp 21) rfl W0.heap.size _ CC [#[G w2.heap.size 1 1]] rfl HO3.out _ _ _ rfl (cY (w2.alloc (.cells (#[I 1,F,U,J (aM k),I 80,F,U,U,Z,Z,Z,F]) 41)) #[G w2.heap.size 1 1] 32 1 _ ay rfl rfl) (by have:=HCC.out;simp;omega) aF ?_;intro v' w3 hown hbel hsame hsz;have HWN:=Lib.hid (And.intro hown (And.intro hbel hsame));clear hown hbel hsame);go_roundg m;case measure=>omega
    case rel=>refine⟨k+1,ay,aa,Lib.hid (Bc HCC.out HAA.out HO3.out HWN.out.1 HWN.out.2.2 ⟨_,rfl,?_⟩ hls ((((hbW.alloc aa _).alloc aF _)).trans HWN.out.2.1))⟩;simp only[List.map_cons,List.map_nil,HCZ.out];exact HC1.out
end
end Go.Proofs.YtnncjbkepakgpaaGreat
