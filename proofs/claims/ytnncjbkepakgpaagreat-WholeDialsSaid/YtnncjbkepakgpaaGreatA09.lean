/- CALLS THAT ACCEPT ARE RIGHT. FEW NUMBERS ARE SORTED. -/
import Derived.Test.YtnncjbkepakgpaaGreatA08
namespace Go.Proofs.YtnncjbkepakgpaaGreat
open Go.RowKit Qv
set_option linter.unusedVariables false
set_option linter.unusedSimpArgs false
set_option maxRecDepth 100000
set_option maxHeartbeats 4000000
section
attribute[local go_sem↓]dM dv bv bj
attribute[local go_sem]eA dO bN bz dC
theorem vd(c:Nat):0≤aM c∧aM c<4294967296:=by have:Pm.kOf c<16:=Nat.mod_lt _ az;unfold aM;omega
theorem FD:∀k:Fin 16,bits .and .u64 (167772161+65536*(k.val:Int)) 4294967295=167772161+65536*(k.val:Int):=az
theorem FC(c:Nat):bits .and .u64 (aM c) 4294967295=aM c:=FD ⟨Pm.kOf c,Nat.mod_lt _ az⟩
theorem vX(c:Nat):IntKind.u32.wrap (aM c)=aM c:=by have:=vd c;have e:IntKind.u32.wrap (aM c)=aM c%4294967296:=rfl;rw[e];omega
theorem pA(c:Nat):IntKind.u64.wrap (aM c)=aM c:=by have:=vd c;rw[IntKind.wrap_u64];omega
attribute[local go_sem]FC vX pA
theorem Qd(c:Nat)(w:World):Calls Tryz.prog 234 #[.int .u32 (aM c)] w fun e w'=>e= .returned (.agg (#[F,U,J (aM c)]))∧Below w.heap.size w w':=by refine(I2 (aM c) w).mono ?_;rintro e w'⟨rfl,rfl⟩;rw[pA];exact⟨rfl,nO⟩
theorem gD(c:Nat)(w:World):Calls Tryz.prog 177 #[.agg (#[F,U,J (aM c)])] w fun e w'=>e= .returned Y∧Below w.heap.size w w':=by
 go_enter Tryz.func177,Tryz.ntmps177;go_upto_region 3 with(fail);refine bH af af ?_;repeat
  (
   first|go_big_quiet_skip|
    (
     go_big_quiet_want;apply bp;·intro W hS;have xx:=cZ hS.out;go_simp;try first|with_reducible rfl|(go_at_call 234;refine(Qd c _).mono ?_;rintro e w'⟨rfl,hb⟩;exact⟨rfl,cP hS hb⟩)
     go_big_quiet_on;try simp only[PT]))
 refine wpQuiet_nil ?_;intro w1 hS1;have xxa:=cZ hS1.out;go_wp2;go_ret;exact⟨rfl,i6⟩
theorem Ea(c:Nat)(w:World):Calls Tryz.prog 119 #[.agg (#[F,U,J (aM c),I 80])] w fun e w'=>e= .returned Y∧Below w.heap.size w w':=by go_enter Tryz.func119,Tryz.ntmps119;go_wp2_with(go_at_call 177;refine(gD c _).mono ?_;rintro e w1⟨rfl,hb⟩;have hk:=aw.mk hb;have xx:=cZ hk.out;clear hb);go_ret;exact⟨rfl,i6⟩
theorem Kt:(Tryz.prog.info? 293).map (·.size)=some 14:=af
theorem MD(w:World):(isAgg 293).run Tryz.prog w= .ok true w:=by unfold isAgg;rw[Sem.run_bind,run_underlying Tryz.underlying293 w];rfl
theorem rz(w:World):Calls Tryz.prog 197 #[] w fun e w'=>e= .returned (.agg (#[.string {data:=#[]},.string {data:=#[97,99,99,101,112,116]},.string {data:=#[108,101,97,118,101]},.string {data:=#[100,105,97,108]},.string {data:=#[114,101,115,117,108,116]},.string {data:=#[98,108,97,109,101]},.string {data:=#[98,97,110]},.string {data:=#[117,110,98,97,110]},.string {data:=#[98,97,110,110,101,100]},.string {data:=#[116,105,99,107]},.string {data:=#[108,105,115,116]},.string {data:=#[112,111,110,103]},.string {data:=#[119,111,114,107]},.string {data:=#[108,101,97,114,110]}]))∧w'=w.alloc (.cells (#[.string {data:=#[]},.string {data:=#[97,99,99,101,112,116]},.string {data:=#[108,101,97,118,101]},.string {data:=#[100,105,97,108]},.string {data:=#[114,101,115,117,108,116]},.string {data:=#[98,108,97,109,101]},.string {data:=#[98,97,110]},.string {data:=#[117,110,98,97,110]},.string {data:=#[98,97,110,110,101,100]},.string {data:=#[116,105,99,107]},.string {data:=#[108,105,115,116]},.string {data:=#[112,111,110,103]},.string {data:=#[119,111,114,107]},.string {data:=#[108,101,97,114,110]}]) 293):=by go_enter Tryz.func197,Tryz.ntmps197;go_wp2;exact bodyPost_ret (v:=.agg _) (aN (t:=293) Tryz.results197 _ _ _ rfl dq dq Kt MD) rfl ⟨rfl,rfl⟩
theorem JV(g:Nat)(w:World)(h:w.cell? ⟨g,1,none⟩=some (.string {data:=#[97,99,99,101,112,116]})):Calls Tryz.prog 198 #[G g 14 14,I 1] w fun e w'=>e= .returned (.string {data:=#[97,99,99,101,112,116]})∧w'=w:=by go_enter Tryz.func198,Tryz.ntmps198;go_wp2;go_ret;exact⟨rfl,rfl⟩
theorem D4(w:World):Calls Tryz.prog 143 #[I 1] w fun e w'=>e= .returned (.string {data:=#[97,99,99,101,112,116]})∧Below w.heap.size w w':=by go_enter Tryz.func143,Tryz.ntmps143;go_wp2_with(first|(go_at_call 197;refine(rz _).mono ?_;rintro e w1⟨rfl,rfl⟩)|(go_at_call 198;refine(JV _ _ dq).mono ?_;rintro e w1⟨rfl,rfl⟩));go_ret;exact⟨rfl,i6⟩
theorem AB(w:World):Calls Tryz.prog 144 #[I 1] w fun e w'=>e= .returned (G w.heap.size 2 2)∧w'=w.alloc (.cells (#[Z,I 3]) 247):=by go_enter Tryz.func144,Tryz.ntmps144;go_wp2;go_ret;exact⟨rfl,rfl⟩
theorem xZ(c:Nat)(t:Int)(h0:0≤t)(h1:t≤1099511627776)(w:World):Calls Tryz.prog 145 #[.agg (#[I 1,F,U,J (aM c),I 80,F,U,U,Z,t,Z,F]),Z] w fun e w'=>e= .returned Y∧Below w.heap.size w w':=by go_enter Tryz.func145,Tryz.ntmps145;go_wp2_with(go_at_call 119;refine(Ea c _).mono ?_;rintro e w1⟨rfl,hb⟩;have hk:=aw.mk hb;have xx:=cZ hk.out;clear hb);go_ret;exact⟨rfl,i6⟩
theorem ya(c:Nat)(t:Int)(h0:0≤t)(h1:t≤1099511627776)(w:World):Calls Tryz.prog 145 #[.agg (#[I 1,F,U,J (aM c),I 80,F,U,U,Z,t,Z,F]),I 3] w fun e w'=>e= .returned Y∧Below w.heap.size w w':=by go_enter Tryz.func145,Tryz.ntmps145;go_wp2;go_ret;exact⟨rfl,i6⟩
theorem m8(c:Nat)(t:Int)(h0:0≤t)(h1:t≤1099511627776)(w:World):Calls Tryz.prog 102 #[.agg (#[I 1,F,U,J (aM c),I 80,F,U,U,Z,t,Z,F])] w fun e w'=>e= .returned Y∧Below w.heap.size w w':=by
 go_enter Tryz.func102,Tryz.ntmps102;go_wp2_with(first|(go_at_call 143;refine(D4 _).mono ?_;rintro e w1⟨rfl,hb⟩;have hk:=aw.mk hb;have xx:=cZ hk.out;clear hb)|(go_at_call 144;refine(AB _).mono ?_;rintro e w2⟨rfl,rfl⟩));have z0:w.heap.size<w1.heap.size:=aa;have z00:w.heap.size<w1.heap.size+1:=aa;go_loopg[13]2(fun g s13 wr=>∃k:Nat,s13= .int .i64 k∧k≤2∧g=2-k∧aw (w1.alloc (.cells (#[Z,I 3]) 247)) wr);case atStart=>exact⟨0,rfl,aa,rfl,⟨Below.refl _ _⟩⟩
 case round=>
  obtain⟨k,rfl,hk1,hg,hK⟩:=hrel;have HG:=Lib.hid hg;clear hg;have xx:=cZ hK.out;rcases(aa:k=0∨k=1∨k=2)with rfl|rfl|rfl;·
   go_wp2_with(go_at_call 145;refine(xZ c t h0 h1 _).mono ?_;rintro e w1⟨rfl,hb⟩;have hk:=aw.mk hb;have xx:=cZ hk.out;clear hb);go_roundg 1;case measure=>rw[HG.out];omega
   case rel=>exact⟨1,rfl,aa,rfl,⟨i6⟩⟩
  ·go_wp2_with(go_at_call 145;refine(ya c t h0 h1 _).mono ?_;rintro e w1⟨rfl,hb⟩;have hk:=aw.mk hb;have xx:=cZ hk.out;clear hb);go_roundg 0;case measure=>rw[HG.out];omega
   case rel=>exact⟨2,rfl,aa,rfl,⟨i6⟩⟩
  ·go_wp2;go_ret;exact⟨rfl,i6⟩
end
section
attribute[local go_sem↓]aZ aW
attribute[local go_sem]dC
theorem vH{p:Prop}(h:p:=by
 have hwr:IntKind.i64.wrap ((i:Int)+1)=(i:Int)+1:=eD;go_wp2;go_roundg(D0.length-(i+1));case measure=>rw[HG.out];omega
 case rel=>exact⟨i+1,D,ay,aa,aa,rfl,Lib.hid ⟨HPr.out,HSr.out.keep hgr hS1.out,HUr.out.trans (ax.of_below hS1.out)⟩⟩):p:=h
theorem vI{p:Prop}(h:p:=by have xx:=cZ hS.out;(try have zz:=zs w.heap.size W.heap.size);go_simp;try first|with_reducible rfl|(go_at_call 333;refine(hc W (HUr.out.trans (ax.of_below hS.out)) D[m+1] D[m] hd1 hd0).mono ?_;rintro e w'⟨rfl,hb⟩;exact⟨rfl,cP hS hb⟩)):p:=h
def Hc(a:Nat):Value:=I (a:Int)
structure dZ(W:World)(g:Nat)(D:List Nat)(R:List Value):Prop where
 own:bc W g=true
 row:aH W g=(D.map Hc++R).toArray
theorem dZ.cell{W:World}{g:Nat}{D:List Nat}{R:List Value}(h:dZ W g D R){i:Nat}(hi:i<D.length):W.cell? ⟨g,i,none⟩=some (.int .i64 (D[i]:Nat)):=by rw[gv _ h.own,h.row];simp[List.getElem?_append_left,hi,Hc]
theorem dZ.frozen{W:World}{g:Nat}{D:List Nat}{R:List Value}(h:dZ W g D R)(i:Nat):W.frozen? ⟨g,i,none⟩=false:=iR _ h.own
theorem dZ.keep{W W':World}{g:Nat}{D:List Nat}{R:List Value}(h:dZ W g D R)(hg:g<W.heap.size)(k:Below W.heap.size W W'):dZ W' g D R:=⟨FY,F2⟩
theorem dZ.set{W:World}{g:Nat}{D:List Nat}{R:List Value}(h:dZ W g D R){i:Nat}(hi:i<D.length)(a:Nat):dZ (W.setCell ⟨g,i,none⟩ (I (a:Int))) g (D.set i a) R:=by rw[oE _ _ h.own];refine⟨by rw[iX];exact h.own,?_⟩;rw[fa _ h.own,h.row];simp only[List.setIfInBounds_toArray];rw[List.set_append_left _ _ lw,List.map_set];rfl
theorem t6(g cap n b1 b2 b3:Nat)(cf:Nat→Nat→Int)(D0:List Nat)(R:List Value)(w:World)(hD:∀a∈D0,a<n)(hcmp:∀W,ax g w W→∀i k:Nat,i<n→k<n→Calls Tryz.prog 333 #[I (i:Nat),I (k:Nat),H b1 0,H b2 0,H b3 0] W fun e w'=>e= .returned (I (cf i k))∧Below W.heap.size W w')(h:dZ w g D0 R)(hg:g<w.heap.size)(hl:D0.length≤100):Calls Tryz.prog 349 #[G g D0.length cap,Z,D0.length,.func (.func 333) #[] #[H b1 0,H b2 0,H b3 0]] w fun e w'=>e= .returned (.tuple #[])∧∃D,D.Perm D0∧dZ w' g D R∧ax g w w':=by
 have HCM:=Lib.hid hcmp;have HS0:=Lib.hid h;clear hcmp h;go_enter Tryz.func349,Tryz.ntmps349;go_wp2;go_loopg[8](D0.length-1)(fun gk s8 wr=>∃(i:Nat)(D:List Nat),s8= .int .i64 (i:Int)∧i≤D0.length+1∧1≤i∧gk=D0.length-i∧Hid (D.Perm D0∧dZ wr g D R∧ax g w wr));case atStart=>exact⟨1,D0,rfl,aa,Nat.le_refl _,aa,Lib.hid ⟨List.Perm.refl _,HS0.out,ax.refl _ _⟩⟩
 case round=>
  obtain⟨i,D,rfl,hi1,hi0,hgk,HH⟩:=hrel;have HG:=Lib.hid hgk;clear hgk;by_cases hi:i<D0.length;·
   have hiz:(i:Int)<(D0.length:Int):=aa;go_wp2;go_loopg[9]i(fun gj s9 wr=>∃(j:Nat)(D:List Nat),s9= .int .i64 (j:Int)∧gj=j∧j≤i∧Hid (D.Perm D0∧dZ wr g D R∧ax g w wr));case atStart=>exact⟨i,D,rfl,rfl,Nat.le_refl _,HH⟩
   case round=>
    obtain⟨j,D,rfl,hgj,hji,HH⟩:=hrel;have HGJ:=Lib.hid hgj;clear hgj;obtain⟨hp,hS,hU⟩:=HH.out;have hlen:=hp.length_eq;have HSr:=Lib.hid hS;have HUr:=Lib.hid hU;have HPr:=Lib.hid hp;have hgr:g<wr.heap.size:=Nat.lt_of_lt_of_le hg hU.size;clear hS hU;cases j with
     |zero=>
      go_upto_region 4 with(fail);refine bH af af ?_;repeat
       (
        first|go_big_quiet_skip|
         (
          go_big_quiet_want;apply bp;·intro W hS;have xx:=cZ hS.out;(try have zz:=zs w.heap.size W.heap.size);go_simp;try first|with_reducible rfl
          go_big_quiet_on;try simp only[PT]))
      refine wpQuiet_nil ?_;intro w1 hS1;have xxa:=cZ hS1.out;(try have zza:=zs w.heap.size w1.heap.size);have hws:=HUr.out.size;have hw1s:=hS1.out.size;exact vH
     |succ m=>
      have hj1:m+1<D.length:=aa;have hj0:m<D.length:=aa;have c1:=HSr.out.cell hj1;have c0:=HSr.out.cell hj0;have f1:=HSr.out.frozen (m+1);have f0:=HSr.out.frozen m;have hc:=HCM.out;have hd1:D[m+1]<n:=hD _ (HPr.out.mem_iff.1 (List.getElem_mem hj1));have hd0:D[m]<n:=hD _ (HPr.out.mem_iff.1 (List.getElem_mem hj0));have hgt:((m:Int)+1>0):=aa;have hsub:IntKind.i64.wrap ((m:Int)+1-1)=(m:Int):=eD;have hb1:(m:Int)+1<(D0.length:Int):=aa;have hb0:(m:Int)<(D0.length:Int):=aa;have hn1:¬((m:Int)+1<0):=aa;have ht1:((m:Int)+1).toNat=m+1:=aa;have hgt':(((m+1:Nat):Int)>0):=aa;have hsub':IntKind.i64.wrap (((m+1:Nat):Int)-1)=(m:Int):=eD;have hsub2:((m+1:Nat):Int)-1=(m:Int):=aa;have hb1':((m+1:Nat):Int)<(D0.length:Int):=aa;have hn1':¬(((m+1:Nat):Int)<0):=aa;have hn0':¬((m:Int)<0):=aa;have hwm:IntKind.i64.wrap (m:Int)=(m:Int):=eD;have h0m:0≤(m:Int)+1:=aa;have h0m':0≤(m:Int):=aa;by_cases hlt:cf D[m+1] D[m]<0;·
       go_upto_region 4 with(fail);refine bH af af ?_;repeat
        (
         first|go_big_quiet_skip|
          (
           go_big_quiet_want;apply bp;·intro W hS;exact vI
           go_big_quiet_on;try simp only[PT]))
       refine wpQuiet_nil ?_;intro w1 hS1;have xxa:=cZ hS1.out;(try have zza:=zs w.heap.size w1.heap.size);have hg1:g<w1.heap.size:=Nat.lt_of_lt_of_le hgr hS1.out.size;have HS1:=Lib.hid (HSr.out.keep hgr hS1.out);have c1:=HS1.out.cell hj1;have c0:=HS1.out.cell hj0;have f1:=HS1.out.frozen (m+1);have f0:=HS1.out.frozen m;go_upto_region 6 with(fail);refine eU [2,3,4] [0,1,5,6,7,8,9,10,11,12,13,14] [15,16,17] af af (fun _ _ d _ _ h=>bo) ?_;simp only[PL];apply iF;·intro W;go_simp;try with_reducible rfl
       try simp only[PT]
       apply iF;·intro W;go_simp;try with_reducible rfl
       try simp only[PT]
       apply iF;·intro W;go_simp;try with_reducible rfl
       try simp only[PT]
       refine ge ?_;repeat
        (
         first|go_big_quiet_skip|
          (
           go_big_quiet_want;apply bp;·intro W hS;have xx:=cZ hS.out;(try have zz:=zs w.heap.size W.heap.size);go_simp;try first|with_reducible rfl
           go_big_quiet_on;try simp only[PT]))
       refine wpQuiet_nil ?_;intro w2 hS2;have xxb:=cZ hS2.out;(try have zzb:=zs w.heap.size w2.heap.size);have hg2:g<w2.heap.size:=Nat.lt_of_lt_of_le hg1 hS2.out.size;have HS2:=Lib.hid (HS1.out.keep hg1 hS2.out);have c1:=HS2.out.cell hj1;have c0:=HS2.out.cell hj0;have f1:=HS2.out.frozen (m+1);have f0:=HS2.out.frozen m;go_wp2;go_roundg m;case measure=>rw[HGJ.out];omega
       case rel=>exact⟨m,(D.set (m+1) D[m]).set m D[m+1],rfl,rfl,aa,Lib.hid ⟨(List.set_set_perm hj1 hj0).trans HPr.out,(HS2.out.set hj1 D[m]).set (by simpa using hj0) D[m+1],((((HUr.out.trans (ax.of_below hS1.out)).trans (ax.of_below hS2.out)).set _ _).set _ _)⟩⟩
      ·go_upto_region 4 with(fail);refine bH af af ?_;repeat
        (
         first|go_big_quiet_skip|
          (
           go_big_quiet_want;apply bp;·intro W hS;exact vI
           go_big_quiet_on;try simp only[PT]))
       refine wpQuiet_nil ?_;intro w1 hS1;have xxa:=cZ hS1.out;(try have zza:=zs w.heap.size w1.heap.size);exact vH
  ·have hiz:¬((i:Int)<(D0.length:Int)):=aa;obtain⟨hp,hS,hU⟩:=HH.out;go_wp2;exact bodyPost_end (results_none rfl _ _ _) rfl ⟨rfl,D,hp,hS,hU⟩
theorem Bu(g cap n b1 b2 b3:Nat)(cf:Nat→Nat→Int)(D0:List Nat)(R:List Value)(w:World)(hD:∀a∈D0,a<n)(hcmp:∀W,ax g w W→∀i k:Nat,i<n→k<n→Calls Tryz.prog 333 #[I (i:Nat),I (k:Nat),H b1 0,H b2 0,H b3 0] W fun e w'=>e= .returned (I (cf i k))∧Below W.heap.size W w')(h:dZ w g D0 R)(hg:g<w.heap.size)(hl:D0.length≤19):Calls Tryz.prog 338 #[G g D0.length cap,D0.length,.func (.func 333) #[] #[H b1 0,H b2 0,H b3 0]] w fun e w'=>e= .returned (.tuple #[])∧∃D,D.Perm D0∧dZ w' g D R∧ax g w w':=by
 have HL:=Lib.hid (t6 g cap n b1 b2 b3 cf D0 R w hD hcmp h hg aa);clear hcmp h;have h20:¬((20:Int)≤(D0.length:Int)):=aa;have h20':¬((20:Int)<(D0.length:Int)):=aa;go_enter Tryz.func338,Tryz.ntmps338;go_wp2;go_loopg[7,8]0(fun gk s7 s8 wr=>s7= .int .i64 0∧s8= .int .i64 20∧wr=w);case atStart=>exact⟨rfl,rfl,rfl⟩
 case round=>
  obtain⟨rfl,rfl,rfl⟩:=hrel;go_wp2_with(go_at_call 349;refine HL.out.mono ?_;rintro e w1⟨rfl,D,hp,hS,hU⟩;have HR:=Lib.hid (show D.Perm D0∧dZ w1 g D R∧ax g wr w1 from⟨hp,hS,hU⟩);clear hp hS hU);go_loopg[6]0(fun gk s6 wx=>s6= .int .i64 20∧wx=w1);case atStart=>exact⟨rfl,rfl⟩
  case round=>obtain⟨rfl,rfl⟩:=hrel;go_wp2;exact bodyPost_end (results_none rfl _ _ _) rfl ⟨rfl,D,HR.out⟩
theorem zC(g cap n b1 b2 b3:Nat)(cf:Nat→Nat→Int)(D0:List Nat)(R:List Value)(w:World)(hD:∀a∈D0,a<n)(hcmp:∀W,ax g w W→∀i k:Nat,i<n→k<n→Calls Tryz.prog 333 #[I (i:Nat),I (k:Nat),H b1 0,H b2 0,H b3 0] W fun e w'=>e= .returned (I (cf i k))∧Below W.heap.size W w')(h:dZ w g D0 R)(hg:g<w.heap.size)(hl:D0.length≤19):Calls Tryz.prog 332 #[G g D0.length cap,.func (.func 333) #[] #[H b1 0,H b2 0,H b3 0]] w fun e w'=>e= .returned (.tuple #[])∧∃D,D.Perm D0∧dZ w' g D R∧ax g w w':=by have HL:=Lib.hid (Bu g cap n b1 b2 b3 cf D0 R w hD hcmp h hg hl);clear hcmp h;go_enter Tryz.func332,Tryz.ntmps332;go_wp2_with(go_at_call 338;refine HL.out.mono ?_;rintro e w1⟨rfl,D,hp,hS,hU⟩;have HR:=Lib.hid (show D.Perm D0∧dZ w1 g D R∧ax g w w1 from⟨hp,hS,hU⟩);clear hp hS hU);exact bodyPost_end (results_none rfl _ _ _) rfl ⟨rfl,D,HR.out⟩
end
end Go.Proofs.YtnncjbkepakgpaaGreat
