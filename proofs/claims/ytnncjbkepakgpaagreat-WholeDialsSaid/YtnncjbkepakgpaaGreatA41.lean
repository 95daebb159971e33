/- A DIAL, under all locks. A DIAL, as a whole. A TASK's TURN, by any code; calls that dial. CALLS THAT DIAL. -/
import Derived.Test.YtnncjbkepakgpaaGreatA40
namespace Go.Proofs.YtnncjbkepakgpaaGreat
open Go.RowKit Qv
set_option linter.unusedVariables false
set_option linter.unusedSimpArgs false
set_option maxRecDepth 100000
set_option maxHeartbeats 600000
section
attribute[local go_sem high]ah
attribute[local simp high]ah
theorem AZ(e:Ed):∀(L:List En)(k:Nat),GN e L k=-1→∀y∈L,y.e≠e
 |[],_,_,y,hy=>by cases hy
 |x::L,k,h,y,hy=>by
  rw[GN]at h;by_cases hx:x.e=e;·rw[if_pos (decide_eq_true hx)]at h;omega
  ·rw[if_neg (by simpa using hx)]at h;rcases List.mem_cons.1 hy with rfl|hy;·exact hx
   ·exact AZ e L _ h y hy
theorem So.sl'{R:Nat→Prop}{W:World}{v:Value}{n:Nat}:∀{L:Option (List (Array Value))},So R W v n L→Sl W v n (L.getD [])
 |none,h=>by rw[show v=_ from h];exact Sl.nil _ _
 |some _,h=>h.1
def kp(L:List En)(e:Ed):List En:=match L[(wB L e).toNat]? with
 |some y=>oS L (Cr y)
 |none=>L
noncomputable def AR(mo:Int)(out now:Int)(P:List Pe)(L:List En)(N:List (Nt×Int)):Dr:=if mo≤out then .full else match K5 now P L N with
 |some e=>.ok e
 |none=>.non
def fc(m:Mm)(S:Nat):List Oq:=dI 3 0 0::dI 4 0 0::kX m S 0
section
variable{R:Nat→Prop}{T:Nat}{m:Mm}{os l:List Oq}{k:Nat}{ret:Value→World→Prop}{w w1 w':World}{e:Ending}
theorem kN(S:Nat):cx m (fc m S)=m:=sZ S 0
theorem Ig(D:Array Value)(S:Nat)(mo now:Int)(hD:vY D S mo now)(hS:m.sh.length=S)(hS8:S≤8)(hsl:∀x∈m.sh,x.1=(x.2.length:Int)∧x.2.length≤900)(hR:∀q,R q→q<w.heap.size)(P:List Pe)(L:List En)(N:List (Nt×Int))(ok:DN P L N)(hP:ER m=P.map eT)(hL:m.bk.getD []=L.map bh)(hN:m.bn.getD []=N.map di)(n0:0≤m.out)(n1:m.out≤1000000)(bk:Ed→Option (List (Array Value)))(hbk:∀e,bk e=some ((kp L e).map bh))(r:Dr)(hr:r=AR mo m.out now P L N)(h:ft R w T ((ej m (fc m S++(dI 2 0 0::(cO m bk r++l)))).take k)):Calls Tryz.prog 148 #[.agg D,.iface 280 (H T 0)] w (Cd R T m (fc m S++(dI 2 0 0::cO m bk r)) l k (fun v _=>∃C,v= .tuple #[.agg C,r.mk]∧OR r C∧C.size=8∧bB C=true) w):=by
 have hlt:=h.lt;have HC:=Lib.hid (Cx.start h hR);have hD0:=hD.n;have hD1:=hD.o;have hD2:=hD.e1;have hD3:=hD.e3;have HSE:=Lib.hid (fun W hR(h:ft R W T ((ej m (fc m S++(dI 2 0 0::(cO m bk r++l)))).take k))=>Lo (w:=W) D S mo now hD hS hS8 hsl hR h);have HV:=Lib.hid (fun W vk vp vb(k1:So R W vk 7 m.bk)(k2:Sl W vp 10 (ER m))(k3:So R W vb 5 m.bn)=>(⟨hL▸k1.sl',hP▸k2,hN▸k3.sl'⟩:Vw W P L N vk vp vb));clear h;go_enter Tryz.func148,Tryz.ntmps148;go_wp2_with fail;refine en 2 [(205,28,_),(64,8,_)] ?_ (by repeat' first|assumption|constructor);intro WB HB d0 sWB fHB;simp only[Bx,Bo]at fHB;have HC:=Lib.hid ((HC.out.below d0).boxes hlt HB.out);refine(HSE.out WB HC.out.r' HC.out.t).mono ?_;rintro e w1⟨hu,hz|⟨k1,hk1,v,rfl,⟨vk,vp,vb,rfl,sk,sp,sb⟩,hT1⟩⟩;·obtain⟨o,O,ho,rfl,hO⟩:=hz;exact⟨rfl,Cd.pan HC.out.u hu [] (dI 2 0 0::cO m bk r) rfl ay ⟨o,O,ho,rfl,hO⟩⟩
 rw[show cx m (dI 3 0 0::dI 4 0 0::kX m S 0)=m from kN S]at hT1;have HC1:=Lib.hid (((HC.out.call hu hT1).addx sk).addx sb);have hp1:=Lib.hid (Sr.keep (R':=(w.heap.size≤·)) sp (Kp.below (Below.refl _ _)) fun q hq=>aa);obtain⟨ak,nk,ck,rfl⟩:=sk.shape;obtain⟨ab,nb,cb',rfl⟩:=sb.shape;obtain⟨ap,np,cp,rfl⟩:=(So.shape (L:=some (ER m)) sp);have s1:=hu.size;have f1:=HC1.out.b;simp only[fg,eQ,Bo]at f1;clear sk sb sp hT1 hu fHB;go_upto_region 2 with(fail);have HC2:=Lib.hid ((HC1.out.below (cb:Below w1.heap.size w1 (w1.alloc (.cells (#[E ak nk ck,E ap np cp,E ab nb cb']) 300)))).addb (g:=w1.heap.size) HC1.out.t.lt ((dY:Bx (w1.alloc (.cells (#[E ak nk ck,E ap np cp,E ab nb cb']) 300)) w1.heap.size [(300,3,#[E ak nk ck,E ap np cp,E ab nb cb'])]).1));have hp2:=Lib.hid (hp1.out.keep (R':=(w.heap.size≤·)) (Kp.below (cb:Below w1.heap.size w1 (w1.alloc (.cells (#[E ak nk ck,E ap np cp,E ab nb cb']) 300)))) fun _ h=>h);have s2:w1.heap.size<(w1.alloc (.cells (#[E ak nk ck,E ap np cp,E ab nb cb']) 300)).heap.size:=ay;generalize w1.alloc (.cells (#[E ak nk ck,E ap np cp,E ab nb cb']) 300)=W2 at*;have hq0:(fun W:World=>Bo W w.heap.size 205 28 D) W2.drew:=HC2.out.b.2.1.2;clear f1;have HF:=Lib.hid (fun(W:World)(hS:(fun W:World=>Bo W w.heap.size 205 28 D) W)=>hS);refine cQ (fun W:World=>Bo W w.heap.size 205 28 D) [0,1,4,5,6] 3 ?_;iterate 5 refine pO ?_
 refine pE ?_;refine bl 2 ?_;simp only[PL];go_wp2_with fail;refine(g9 (m:=m) (l:=cO m bk r++l) 2 0 0 (.inl ⟨az,rfl,rfl⟩) (HC2.out.below (cb:Below W2.heap.size W2 W2.drew)).t).mono ?_;rintro e w3⟨hu,hz|⟨k3,hk3,v,rfl,⟨C,rfl,hV⟩,hT3⟩⟩;·obtain⟨o,O,ho,rfl,hO⟩:=hz;exact⟨rfl,Cd.pan (HC2.out.below (cb:Below W2.heap.size W2 W2.drew)).u hu (fc m S) (cO m bk r) rfl hk1 ⟨o,O,ho,rfl,hO⟩⟩
 obtain⟨q2,q3,q4,q5,q6,q7,q8,q9,q10,q11,a5,m5,c5,a6,m6,c6,rfl,-⟩:=fq hV;rw[show(fW m (dI 2 0 0)).n=m.out from rfl];replace hT3:ft R w3 T ((ej m (cO m bk r++l)).take k3):=hT3;have HC3:=Lib.hid ((HC2.out.below (cb:Below W2.heap.size W2 W2.drew)).call hu hT3);have hq3:(fun W:World=>Bo W w.heap.size 205 28 D) w3:=HC3.out.b.2.1.2;have hp3:=Lib.hid (hp2.out.keep (R':=(w.heap.size≤·)) (W':=w3) ((Kp.below (cb:Below W2.heap.size W2 W2.drew)).trans (Kp.upto hu aa)) fun _ h=>h);have s3:=hu.size;clear hT3 hV hu;go_wp2;refine ba ?_;refine bE [3,7] 0 ?_;iterate 2 refine pO ?_
 refine pE ?_;refine cU ?_;skip;have f3:=HC3.out.b;simp only[fg,eQ,Bo]at f3;by_cases hm:mo≤m.out;·
  have hge:m.out≥mo:=hm;obtain rfl:r= .full:=by rw[hr,AR,if_pos hm]
  clear hr;go_wp2_with fail;refine(ta 5 _).mono ?_;rintro e w4⟨rfl,hb⟩;have HC4:=Lib.hid (HC3.out.below hb);have f4:=HC4.out.b;simp only[fg,eQ,Bo]at f4;clear hb f3;go_wp2;refine bodyPost_ret (v:=.tuple #[.agg #[I 5,F,U,U,Z,Z,Z,V],Y]) (ci (t:=64) Tryz.results148 _ _ _ rfl ?_ ?_ fi ic) rfl ?_;·go_simp
  ·go_simp
  have hF:=HC4.out.out (g:=w.heap.size+1) (C':=#[I 5,F,U,U,Z,Z,Z,V]) aa;exact Cd.fin (k':=k3) hF.u (MV) _ rfl ⟨_,rfl,⟨rfl,rfl,5,rfl,az⟩,rfl,rfl⟩ (PB)
 have hge:¬(m.out≥mo):=hm;have hpk:=fun W vk vp vb(h:Vw W P L N vk vp vb)=>K0 now P L N ok vk vp vb W h;rw[AR,if_neg hm]at hr;have hr':K5 now P L N=none∧r= .non∨∃e,K5 now P L N=some e∧r= .ok e:=by
  rw[hr];cases K5 now P L N with
   |none=>exact .inl ⟨rfl,rfl⟩
   |some e=>exact .inr ⟨e,rfl,rfl⟩
 rcases hr' with⟨hq,hr'⟩|⟨e,hq,hr'⟩;·
  clear hr;rw[hq]at hpk;subst hr';have hpk:=Lib.hid hpk;clear hq;go_wp2_with fail;refine(hpk.out _ _ _ _ (HV.out _ _ _ _ HC3.out.x.2.1 hp3.out.1 HC3.out.x.1)).mono ?_;rintro e w4⟨rfl,hb⟩;have HC4:=Lib.hid (HC3.out.below hb);have hp4:=Lib.hid (hp3.out.keep (R':=(w.heap.size≤·)) (Kp.below hb) fun _ h=>h);have f4:=HC4.out.b;have s4:=hb.size;simp only[fg,eQ,Bo]at f4;clear hb f3 hpk;simp only[Q5];go_wp2_with fail;have k5:Below w4.heap.size w4 (w4.alloc (.cells (#[F,U,U,Z]) 36)):=cb;have hV5:=HV.out _ _ _ _ (HC4.out.below k5).x.2.1 (hp4.out.1.below k5) (HC4.out.below k5).x.1;refine(LH now P L N ok _ _ _ _ hV5).mono ?_;rintro e w5⟨⟨n,rfl⟩,hb⟩;have HC5:=Lib.hid ((HC4.out.below k5).below hb);have f5:=HC5.out.b;have s5:=hb.size;have s5':=k5.size;simp only[fg,eQ,Bo]at f5;clear hb f4 k5 hV5;go_wp2;refine bodyPost_ret (v:=.tuple #[.agg #[I 6,F,U,U,Z,Z,n,V],Y]) (ci (t:=64) Tryz.results148 _ _ _ rfl ?_ ?_ fi ic) rfl ?_;·go_simp
  ·go_simp
  have hF:=HC5.out.out (g:=w.heap.size+1) (C':=#[I 6,F,U,U,Z,Z,n,V]) aa;exact Cd.fin (k':=k3) hF.u (MV) _ rfl ⟨_,rfl,⟨rfl,rfl,6,rfl,az⟩,rfl,rfl⟩ (PB)
 ·clear hr;rw[hq]at hpk;subst hr';obtain⟨-,y0,hy0,hye0,-⟩:=yQ hq;obtain⟨i,hi,hfi,y,hyi,hye⟩:∃i,i<L.length∧wB L e=(i:Int)∧∃y,L[i]? =some y∧y.e=e:=by
   rcases wC L e with h1|h1;·exact absurd hye0 (AZ e L 0 h1 y0 hy0)
   ·exact h1
  have hbke:bk e=some ((oS L (Cr y)).map bh):=by rw[hbk];unfold kp;rw[hfi];simp[hyi]
  have hpk:=Lib.hid hpk;clear hq hbk;go_wp2_with fail;refine(hpk.out _ _ _ _ (HV.out _ _ _ _ HC3.out.x.2.1 hp3.out.1 HC3.out.x.1)).mono ?_;rintro e' w4⟨rfl,hb⟩;have HC4:=Lib.hid (HC3.out.below hb);have f4:=HC4.out.b;have s4:=hb.size;simp only[fg,eQ,Bo]at f4;clear hb f3 hpk;simp only[Q5];go_wp2_with fail;have HC5:=Lib.hid ((HC4.out.below (cb:Below w4.heap.size w4 (w4.alloc (.cells (#[e.six,J e.hi,J e.lo,e.port]) 36)))).addb (g:=w4.heap.size) HC4.out.t.lt ((dY:Bx (w4.alloc (.cells (#[e.six,J e.hi,J e.lo,e.port]) 36)) w4.heap.size [(36,4,#[e.six,J e.hi,J e.lo,e.port])]).1));have s5:w4.heap.size<(w4.alloc (.cells (#[e.six,J e.hi,J e.lo,e.port]) 36)).heap.size:=ay;generalize w4.alloc (.cells (#[e.six,J e.hi,J e.lo,e.port]) 36)=W5 at*;rw[show cO m bk (.ok e)=[dI 2 0 0,yJ m.out]++[Fh (bk e)]from rfl,List.append_assoc]at HC5;refine(KJ n0 n1 HC5.out.t).mono ?_;rintro e' w6⟨hu,hz|⟨k6,hk6,v,rfl,rfl,hT6⟩⟩;·obtain⟨o,O,ho,rfl,hO⟩:=hz;exact⟨rfl,Cd.pan HC5.out.u hu (fc m S++[dI 2 0 0]) [Fh (bk e)] (by simp[cO]) (MV) ⟨o,O,ho,rfl,hO⟩⟩
  obtain⟨M',hM'⟩:∃M',M'=cx m [dI 2 0 0,yJ m.out]:=⟨_,rfl⟩;rw[←hM']at hT6;have HC6:=Lib.hid (HC5.out.call hu hT6);have s6:=hu.size;have hLv:=hL▸HC6.out.x.2.1.sl';have hgR:=HC6.out.x.2.1.reach;obtain⟨gk,ok',cL,e0,hgw,e1,e2,-⟩:=eC hLv (k:=i) (D:=bh y) (by rw[List.getElem?_map,hyi];rfl);simp only[Value.slice.injEq,List.length_map]at e0;obtain⟨rfl,rfl,rfl⟩:=e0;have hgT:gk≠T:=fun e=>HC6.out.t.nT (e▸hgR gk rfl);have HK:=Lib.hid (show∀W,ax T w6 W→(Bo W w4.heap.size 36 4 #[e.six,J e.hi,J e.lo,e.port]∧Bo W w1.heap.size 300 3 #[E (some ⟨gk,ok',none⟩) L.length ck,E ap np cp,E ab nb cb']∧Bo W w.heap.size 205 28 D)∧aR W ⟨gk,ok'+i*7,none⟩ 7=true∧aO W ⟨gk,ok'+i*7,none⟩ 7=bh y from fun W h=>by have hb:=eQ.keep (fun g hT hg=>h.block g hg (Nat.ne_of_gt hT)) HC6.out.b;exact⟨⟨hb.1.2,hb.2.1.2,hb.2.2.1.2⟩,bm ⟨e1,e2⟩ (h.block gk hgw hgT)⟩);have hi0:0≤(i:Int):=aa;have hi1:(i:Int)<(L.length:Int):=aa;have hLv':=Lib.hid (fun W(h:ax T w6 W)=>hLv.same h.size fun q hq hl=>h.block q hl (by have:=hq;simp only[Value.ownBlock,Option.some.injEq]at this;omega));have HBF:=Lib.hid (fun W hs=>ri L e (E (some ⟨gk,ok',none⟩) L.length ck) W hs xS);rw[hfi]at HBF;have HKE:=Lib.hid (fun W(hs:Sl W (.slice (some ⟨gk,ok',none⟩) L.length ck) 7 (L.map bh))(h:ft R W T ((ej M' (Fh (bk e)::l)).take k6))=>(by have:=Hd (w:=W) (m:=M') (l:=l) (k:=k6) (R:=R) (T:=T) D hD0 hD1 L (Cr y) (E (some ⟨gk,ok',none⟩) L.length ck) hs xS;rw[←hbke]at this;exact this h:Calls Tryz.prog 204 #[.agg D,.iface 280 (H T 0),E (some ⟨gk,ok',none⟩) L.length ck,.agg (bh (Cr y))] W (Cd R T M' [Fh (bk e)] l k6 (fun v _=>v= .tuple #[]) W)));clear hu hT6 f4 e1 e2 hLv hL;go_upto_region 8 with(fail);have HF:=Lib.hid (fun(W:World)(hS:(ax T w6) W)=>HK.out W hS);refine cQ (ax T w6) [0,1,2,3,4,5,6,7,8] 5 ?_;iterate 9 refine pO ?_
  refine pE ?_;refine bl 9 ?_;simp only[PL];go_wp2_with fail;refine(HBF.out _ (hLv'.out _ (cb:ax T w6 w6.drew))).mono ?_;rintro e' w9q⟨rfl,hb⟩;have k9:Below w6.heap.size w6 w9q:=aj hb cb cs;have hu9:ax T w6 w9q:=ax.of_below k9;clear hb;go_wp2;refine ba ?_;refine bE [10,11] 2 ?_;iterate 2 refine pO ?_
  refine pE ?_;refine bl 12 ?_;simp only[PL];go_wp2_with fail;refine(Nu y _).mono ?_;rintro e' w12q⟨rfl,hb⟩;have k12:Below w6.heap.size w6 w12q:=k9.trans (hb.mono k9.size);have hu12:ax T w6 w12q:=ax.of_below k12;clear hb;go_wp2;refine ba ?_;refine bl 13 ?_;simp only[PL];go_wp2_with fail;refine(HKE.out _ (hLv'.out _ hu12) (HC6.out.below k12).t).mono ?_;rintro e' w7⟨hu,hz|⟨k7,hk7,v,rfl,rfl,hT7⟩⟩;·obtain⟨o,O,ho,rfl,hO⟩:=hz;exact⟨rfl,Cd.pan (HC6.out.below k12).u hu (fc m S++[dI 2 0 0,dI 2 0 0,yJ m.out]) [] (by simp[cO]) (by rw[hk1,hk3,hk6];simp only[fc,List.length_append,List.length_cons,List.length_nil];omega) ⟨o,O,ho,rfl,hO⟩⟩
  have HC7:=Lib.hid ((HC6.out.below k12).call hu hT7);have f7:=HC7.out.b;simp only[fg,eQ,Bo]at f7;have hu7:ax T w6 w7:=hu12.trans hu;have s7:=hu7.size;clear hu hT7;go_wp2;refine ba ?_;refine cU ?_;go_wp2;refine bodyPost_ret (v:=.tuple #[.agg #[Z,e.six,J e.hi,J e.lo,e.port,Z,Z,V],F]) (ci (t:=64) Tryz.results148 _ _ _ rfl ?_ ?_ fi ic) rfl ?_;·go_simp
  ·go_simp
  have hF:=HC7.out.out (g:=w.heap.size+1) (C':=#[Z,e.six,J e.hi,J e.lo,e.port,Z,Z,V]) aa;exact Cd.fin (k':=k7) hF.u (by rw[hk1,hk3,hk6,hk7];simp only[cO,fc,List.length_append,List.length_cons,List.length_nil];omega) _ rfl ⟨_,rfl,rfl,rfl,rfl⟩ (by rw[show cx m (fc m S++(dI 2 0 0::cO m bk (.ok e)))=cx M' [Fh (bk e)]from by rw[hM',bP,kN];rfl];exact hF.t)
end
end
section
attribute[local go_sem high]ah
attribute[local simp high]ah
section
variable{R:Nat→Prop}{T:Nat}{m:Mm}{os l:List Oq}{k:Nat}{ret:Value→World→Prop}{w w1 w':World}{e:Ending}
theorem Ch(S:Nat)(m:Mm)(bk:Ed→Option (List (Array Value)))(r:Dr):ee S m bk r=cW 2 0 false::cW 1 1 false::(o6 S 0++((fc m S++(dI 2 0 0::cO m bk r))++(eH S r.mk S++[cW 3 1 false,cW 4 0 false]))):=by unfold ee pu jT n9 fc;rw[Hk,Nx,Lb];simp
theorem Gs(bk:Ed→Option (List (Array Value)))(S:Nat)(r:Dr):cx m (fc m S++(dI 2 0 0::cO m bk r))=jH m bk r:=by rw[bP,kN];exact pf
theorem J4(D:Array Value)(S:Nat)(h0:1≤S)(mo now:Int)(hD:vY D S mo now)(hS:m.sh.length=S)(hS8:S≤8)(hsl:∀x∈m.sh,x.1=(x.2.length:Int)∧x.2.length≤900)(hR:∀q,R q→q<w.heap.size)(P:List Pe)(L:List En)(N:List (Nt×Int))(ok:DN P L N)(hP:ER m=P.map eT)(hL:m.bk.getD []=L.map bh)(hN:m.bn.getD []=N.map di)(n0:0≤m.out)(n1:m.out≤1000000)(bk:Ed→Option (List (Array Value)))(hbk:∀e,bk e=some ((kp L e).map bh))(r:Dr)(hr:r=AR mo m.out now P L N)(h:ft R w T ((ej m (ee S m bk r++l)).take k)):Calls Tryz.prog 104 #[.agg D,.iface 280 (H T 0)] w (Cd R T m (ee S m bk r) l k (fun v _=>∃C,v= .agg C∧OR r C∧C.size=8∧bB C=true) w):=by
 rw[Ch]at*;have hlt:=h.lt;rw[show(cW 2 0 false::cW 1 1 false::(o6 S 0++((fc m S++(dI 2 0 0::cO m bk r))++(eH S r.mk S++[cW 3 1 false,cW 4 0 false]))))++l=cW 2 0 false::cW 1 1 false::(o6 S 0++((fc m S++(dI 2 0 0::cO m bk r))++(eH S r.mk S++([cW 3 1 false,cW 4 0 false]++l))))by simp]at h;have HC:=Lib.hid (Cx.start h hR);have hD0:=hD.n;have hD1:=hD.o;have hD2:=hD.e2;have HPK:=Lib.hid (fun W k'(hR)(h:ft R W T ((ej m (fc m S++(dI 2 0 0::(cO m bk r++(eH S r.mk S++([cW 3 1 false,cW 4 0 false]++l)))))).take k'))=>Ig (w:=W) (k:=k') D S mo now hD hS hS8 hsl hR P L N ok hP hL hN n0 n1 bk hbk r hr h);clear h hP hL hN hbk hr ok;go_enter Tryz.func104,Tryz.ntmps104;go_wp2_with fail;refine en 2 [(205,28,_),(64,8,_)] ?_ (by repeat' first|assumption|constructor);intro WB HB d0 sWB fHB;simp only[Bx,Bo]at fHB;have HC:=Lib.hid ((HC.out.below d0).boxes hlt HB.out);refine(wi 0 false HC.out.t).mono ?_;rintro e w1⟨hu,hz|⟨k1,hk1,v,rfl,⟨C,rfl,-⟩,hT⟩⟩;·obtain⟨o,O,ho,rfl,hO⟩:=hz;exact⟨rfl,Cd.pan HC.out.u hu [] (cW 1 1 false::(o6 S 0++((fc m S++(dI 2 0 0::cO m bk r))++(eH S r.mk S++[cW 3 1 false,cW 4 0 false])))) rfl ay ⟨o,O,ho,rfl,hO⟩⟩
 rw[fm _ _ _ ⟨az,az⟩]at hT;have HC1:=Lib.hid (HC.out.call hu hT);have s1:=hu.size;have f1:=HC1.out.b;simp only[fg,eQ,Bo]at f1;clear hu hT fHB;go_wp2_with fail;refine(wh 1 false HC1.out.t).mono ?_;rintro e w2⟨hu,hz|⟨k2,hk2,v,rfl,⟨C,rfl,-⟩,hT⟩⟩;·obtain⟨o,O,ho,rfl,hO⟩:=hz;exact⟨rfl,Cd.pan HC1.out.u hu ([cW 2 0 false]) (o6 S 0++((fc m S++(dI 2 0 0::cO m bk r))++(eH S r.mk S++[cW 3 1 false,cW 4 0 false]))) rfl hk1 ⟨o,O,ho,rfl,hO⟩⟩
 rw[fm _ _ _ ⟨az,az⟩]at hT;have HC2:=Lib.hid (HC1.out.call hu hT);have s2:=hu.size;have f2:=HC2.out.b;simp only[fg,eQ,Bo]at f2;clear hu hT f1;go_wp2_with fail;refine(sN S h0 hS8 HC2.out.t).mono ?_;rintro e w3⟨hu,hz|⟨k3,hk3,v,rfl,rfl,hT⟩⟩;·obtain⟨o,O,ho,rfl,hO⟩:=hz;exact⟨rfl,Cd.pan HC2.out.u hu ([cW 2 0 false,cW 1 1 false]) ((fc m S++(dI 2 0 0::cO m bk r))++(eH S r.mk S++[cW 3 1 false,cW 4 0 false])) rfl (by rw[hk1,hk2];simp only[List.length_append,List.length_cons,List.length_nil];omega) ⟨o,O,ho,rfl,hO⟩⟩
 rw[ou,List.append_assoc]at hT;have HC3:=Lib.hid (HC2.out.call hu hT);have s3:=hu.size;have f3:=HC3.out.b;simp only[fg,eQ,Bo]at f3;clear hu hT f2;go_wp2_with fail;refine(HPK.out _ _ HC3.out.r' HC3.out.t).mono ?_;rintro e w4⟨hu,hz|⟨k4,hk4,v,rfl,⟨C,rfl,hq,hC1,hC2⟩,hT⟩⟩;·obtain⟨o,O,ho,rfl,hO⟩:=hz;exact⟨rfl,Cd.pan HC3.out.u hu (cW 2 0 false::cW 1 1 false::o6 S 0) (eH S r.mk S++[cW 3 1 false,cW 4 0 false]) ay (by rw[hk1,hk2,hk3];simp only[List.length_append,List.length_cons,List.length_nil];omega) ⟨o,O,ho,rfl,hO⟩⟩
 rw[Gs]at hT;have HC4:=Lib.hid (HC3.out.call hu hT);have s4:=hu.size;have f4:=HC4.out.b;simp only[fg,eQ,Bo]at f4;clear hu hT f3;go_wp2_with fail;have HC5:=Lib.hid ((HC4.out.below (cb:Below w4.heap.size w4 (w4.alloc (.cells C 64)))).addb (g:=w4.heap.size) HC4.out.t.lt ((dY:Bx (w4.alloc (.cells C 64)) w4.heap.size [(64,8,C)]).1));have s5:w4.heap.size<(w4.alloc (.cells C 64)).heap.size:=ay;generalize w4.alloc (.cells C 64)=w5 at*;have f5:=HC5.out.b;simp only[fg,eQ,Bo]at f5;clear f4;refine(so S h0 hS8 r.mk HC5.out.t).mono ?_;rintro e w6⟨hu,hz|⟨k6,hk6,v,rfl,rfl,hT⟩⟩;·obtain⟨o,O,ho,rfl,hO⟩:=hz;exact⟨rfl,Cd.pan HC5.out.u hu (cW 2 0 false::cW 1 1 false::(o6 S 0++(fc m S++(dI 2 0 0::cO m bk r)))) ([cW 3 1 false,cW 4 0 false]) ay (by rw[hk1,hk2,hk3,hk4];simp only[List.length_append,List.length_cons,List.length_nil];omega) ⟨o,O,ho,rfl,hO⟩⟩
 rw[n8]at hT;have HC6:=Lib.hid (HC5.out.call hu hT);have s6:=hu.size;have f6:=HC6.out.b;simp only[fg,eQ,Bo]at f6;clear hu hT f5;go_wp2_with fail;refine(wg 1 false HC6.out.t).mono ?_;rintro e w7⟨hu,hz|⟨k7,hk7,v,rfl,⟨C',rfl,-⟩,hT⟩⟩;·obtain⟨o,O,ho,rfl,hO⟩:=hz;exact⟨rfl,Cd.pan HC6.out.u hu (cW 2 0 false::cW 1 1 false::(o6 S 0++((fc m S++(dI 2 0 0::cO m bk r))++eH S r.mk S))) ([cW 4 0 false]) ay (by rw[hk1,hk2,hk3,hk4,hk6];simp only[List.length_append,List.length_cons,List.length_nil];omega) ⟨o,O,ho,rfl,hO⟩⟩
 rw[fm _ _ _ ⟨az,az⟩]at hT;have HC7:=Lib.hid (HC6.out.call hu hT);have s7:=hu.size;have f7:=HC7.out.b;simp only[fg,eQ,Bo]at f7;clear hu hT f6;go_wp2_with fail;refine(Az 0 false HC7.out.t).mono ?_;rintro e w8⟨hu,hz|⟨k8,hk8,v,rfl,⟨C'',rfl,-⟩,hT⟩⟩;·obtain⟨o,O,ho,rfl,hO⟩:=hz;exact⟨rfl,Cd.pan HC7.out.u hu (cW 2 0 false::cW 1 1 false::(o6 S 0++((fc m S++(dI 2 0 0::cO m bk r))++(eH S r.mk S++[cW 3 1 false])))) ([]) ay (by rw[hk1,hk2,hk3,hk4,hk6,hk7];simp only[List.length_append,List.length_cons,List.length_nil];omega) ⟨o,O,ho,rfl,hO⟩⟩
 rw[fm _ _ _ ⟨az,az⟩]at hT;have HC8:=Lib.hid (HC7.out.call hu hT);have s8:=hu.size;have f8:=HC8.out.b;simp only[fg,eQ,Bo]at f8;clear hu hT f7;go_wp2;refine bodyPost_ret (v:=.agg C) (aN (t:=64) Tryz.results104 _ _ _ rfl ?_ ?_ fi ic) rfl ?_;·go_simp
 ·go_simp
 have hF:=HC8.out.out (g:=w.heap.size+1) (C':=C) aa;exact Cd.fin (k':=k8) hF.u (by rw[hk1,hk2,hk3,hk4,hk6,hk7,hk8];simp only[List.length_append,List.length_cons,List.length_nil];omega) _ rfl ⟨_,rfl,hq,hC1,hC2⟩ (by rw[show cx m (cW 2 0 false::cW 1 1 false::(o6 S 0++((fc m S++(dI 2 0 0::cO m bk r))++(eH S r.mk S++[cW 3 1 false,cW 4 0 false]))))=jH m bk r from by rw[←Ch];exact uM];exact hF.t)
theorem I7(D:Array Value)(hD0:D.size=28)(hD1:bB D=true)(hR:∀q,R q→q<w.heap.size)(h:ft R w T ((ej m (Bh::l)).take k)):Calls Tryz.prog 103 #[.agg D,.iface 280 (H T 0)] w (Cd R T m [Bh] l k (fun v _=>∃C,v= .agg C∧we C) w):=by
 have hlt:=h.lt;have HC:=Lib.hid (Cx.start h hR);clear h;go_enter Tryz.func103,Tryz.ntmps103;go_wp2_with fail;refine en 2 [(205,28,_),(64,8,_)] ?_ (by repeat' first|assumption|constructor);intro WB HB d0 sWB fHB;simp only[Bx,Bo]at fHB;have HC:=Lib.hid ((HC.out.below d0).boxes hlt HB.out);refine(M1 HC.out.t).mono ?_;rintro e w1⟨hu,hz|⟨k1,hk1,v,rfl,⟨C,rfl,-⟩,hT⟩⟩;·obtain⟨o,O,ho,rfl,hO⟩:=hz;exact⟨rfl,Cd.pan HC.out.u hu [] [] rfl ay ⟨o,O,ho,rfl,hO⟩⟩
 have HC1:=Lib.hid (HC.out.call hu hT);have s1:=hu.size;have f1:=HC1.out.b;simp only[fg,eQ,Bo]at f1;clear hu hT fHB;go_wp2_with fail;refine(ta 1 _).mono ?_;rintro e w2⟨rfl,hb⟩;have HC2:=Lib.hid (HC1.out.below hb);have f2:=HC2.out.b;simp only[fg,eQ,Bo]at f2;clear hb f1;go_wp2;refine bodyPost_ret (v:=.agg #[I 1,F,U,U,Z,Z,Z,V]) (aN (t:=64) Tryz.results103 _ _ _ rfl ?_ ?_ fi ic) rfl ?_;·go_simp
 ·go_simp
 have hF:=HC2.out.out (g:=w.heap.size+1) (C':=#[I 1,F,U,U,Z,Z,Z,V]) aa;exact Cd.fin (k':=k1) hF.u hk1 _ rfl ⟨_,rfl,rfl,rfl,1,rfl,az⟩ hF.t
end
end
section
attribute[local go_sem high]ah
attribute[local simp high]ah
theorem E3{R R':Nat→Prop}{W W':World}{C:Array Value}{x:Tu}(h:xB R W C x)(k:Kp R W W')(m:∀q,R q→R' q):xB R' W' C x:=by
 cases x with
  |op o=>obtain⟨a,b,h1,h2,h3⟩:=h;exact⟨a,b,h1,fb h2 k m,h3⟩
  |done Q=>exact h
theorem LC{R:Nat→Prop}{W:World}{C:Array Value}{x:Tu}(h:xB R W C x):C.size=31∧bB C=true:=by
 cases x with
  |op o=>obtain⟨a,b,rfl,h2,h3,h4⟩:=h;exact⟨by simp[h2.size,h3],ey (ey h2.ones h4) rfl⟩
  |done Q=>obtain⟨a,b,rfl,h1,h2,h3,h4,-⟩:=h;exact⟨by simp[h1,h3],ey (ey h2 h4) rfl⟩
theorem GZ(K:Array Value)(hK:K.size=16)(hK1:bB K=true)(t:Tk)(hl:t.nth<t.calls.length)(Fx:Nat)(D:Array Value)(T:Tu)(hcode:∀w,Calls Tryz.prog 37 #[.agg K,.agg (aD t)] w fun e w'=>e= .returned (.func (.func Fx) #[.agg D] #[])∧Below w.heap.size w w')(hplay:∀(R:Nat→Prop)(w:World)(vg:Value),(∀q,R q→q<w.heap.size)→Se jD R w vg 13 t.got→Calls Tryz.prog 135 #[.func (.func Fx) #[.agg D] #[],vg] w fun e w'=>∃DD,e= .returned (.agg DD)∧xB (Rn R w.heap.size) w' DD T∧Below w.heap.size w w'):eJ K t T:=by
 intro R C w h;have hcut:=mK h;obtain⟨vc,vg,vr,rfl,h1,h2,h3⟩:=hcut;have HPL:=Lib.hid (fun W(k:Below w.heap.size w W)=>hplay (fun q=>R q∧q<w.heap.size) W vg (fun q hq=>Nat.lt_of_lt_of_le hq.2 k.size) (h2.keep cM (Kp.below k) fun _ h=>h));have HCD:=Lib.hid hcode;obtain⟨ag,cg,rfl⟩:=h2.shape;obtain⟨ar,mr,cr,rfl⟩:=So.shape (L:=some _) h3;have hme:t.calls[t.nth]? =some (aD t):=by unfold aD;rw[List.getD_eq_getElem?_getD,List.getElem?_eq_getElem hl];rfl
 have hc1:=h1.1.sizes _ (List.mem_of_getElem? hme);have hc2:=h1.1.ones _ (List.mem_of_getElem? hme);obtain⟨g,o,cc,e0,hgw,e1,e2,-⟩:=eC h1.1 hme;subst e0;have HE:=Lib.hid (show∀W,Below w.heap.size w W→aR W ⟨g,o+t.nth*12,none⟩ 12=true∧aO W ⟨g,o+t.nth*12,none⟩ 12=aD t from fun W k=>bm ⟨e1,e2⟩ (k.block g hgw));have n0:(t.nth:Int)<(t.calls.length:Int):=aa;have n1:0≤(t.nth:Int):=aa;clear hcode hplay h h1 h2 h3 e1 e2 hme;generalize aD t=CO at*;go_enter Tryz.func93,Tryz.ntmps93;go_upto_region 1 with(fail);refine jg 3 [(29,16,_),(62,5,_),(198,31,_)] ?_ (by repeat' first|assumption|constructor);intro WB HB d0 sWB fHB;simp only[Bx,Bo]at fHB;have HF:=Lib.hid (fun(W:World)(hS:(aw WB) W)=>And.intro (Bx.mono hS.out HB.out aF) (HE.out W (hS.since d0 aa)));refine OQ 11 (aw WB) [0,1,2,3,4,5,6,8,9] 3 ?_;iterate 9 refine pO ?_
 refine pE ?_;refine qn 7 ?_;simp only[PL];go_wp2_with fail;refine(HCD.out _).mono ?_;rintro e w1⟨rfl,hb⟩;have k1:Below WB.heap.size WB w1:=aj hb cb cs;have hk1:=aw.mk k1;clear hb;go_wp2;refine ba ?_;refine qn 10 ?_;simp only[PL];go_wp2_with fail;refine(HPL.out w1 (d0.trans (k1.mono aa))).mono ?_;rintro e w2⟨DD,rfl,hT,hb⟩;have k2:Below WB.heap.size WB w2:=k1.trans (hb.mono k1.size);have hk2:=aw.mk k2;have s1:=k1.size;have HT:=Lib.hid hT;obtain⟨hd1,hd2⟩:=LC hT;have HB2:=cD k2 HB;have f2:=HB2.out;simp only[Bx,Bo]at f2;clear hb hT;go_wp2;refine ba ?_;refine Fj 11 ?_;simp only[PL];go_wp2;refine am trivial ?_;refine Fi ?_;go_wp2;refine bodyPost_ret (v:=.agg DD) (aN (t:=198) Tryz.results93 _ _ _ rfl ?_ ?_ kr Ao) rfl ?_;·go_simp
 ·go_simp
 exact⟨DD,rfl,E3 HT.out (Kp.setRow (T:=w.heap.size+1+1) pG) (fun q h=>by rcases h with h|h;exact .inl h.1;exact .inr aa),ai (d0.trans (k2.mono aa)) aa _⟩
end
section
attribute[local go_sem high]ah
attribute[local simp high]ah
structure Ca where
 s:Bool
 hi:Int
 lo:Int
 p:Int
 s2:Bool
 h2:Int
 l2:Int
 b2:Int
 now:Int
 num:Int
 g:Bool
def pL(y:Ca):Array Value:=#[I 3,y.s,J y.hi,J y.lo,y.p,y.s2,J y.h2,J y.l2,y.b2,y.now,y.num,y.g]
def Do(y:Ca):Bool:=decide (0≤y.now)&&decide (y.now≤1099511627776)
theorem Gj(g:Nat)(w:World)(h:w.cell? ⟨g,3,none⟩=some (.string {data:=#[100,105,97,108]})):Calls Tryz.prog 198 #[G g 14 14,I 3] w fun e w'=>e= .returned (.string {data:=#[100,105,97,108]})∧w'=w:=by go_enter Tryz.func198,Tryz.ntmps198;go_wp2;go_ret;exact⟨rfl,rfl⟩
theorem AG(w:World):Calls Tryz.prog 143 #[I 3] w fun e w'=>e= .returned (.string {data:=#[100,105,97,108]})∧Below w.heap.size w w':=by go_enter Tryz.func143,Tryz.ntmps143;go_wp2_with(first|(go_at_call 197;refine(rz _).mono ?_;rintro e w1⟨rfl,rfl⟩)|(go_at_call 198;refine(Gj _ _ dq).mono ?_;rintro e w1⟨rfl,rfl⟩));go_ret;exact⟨rfl,cb⟩
theorem xY(w:World):Calls Tryz.prog 144 #[I 3] w fun e w'=>e= .returned (G w.heap.size 1 1)∧w'=w.alloc (.cells #[I 3] 247):=by go_enter Tryz.func144,Tryz.ntmps144;go_wp2;go_ret;exact⟨rfl,rfl⟩
theorem yb(y:Ca)(w:World):Calls Tryz.prog 145 #[.agg (pL y),I 3] w fun e w'=>e= .returned (.bool (Do y))∧Below w.heap.size w w':=by
 unfold Do pL;go_enter Tryz.func145,Tryz.ntmps145;cases h0:decide (0≤y.now)<;>(have h0':=h0;simp only[decide_eq_true_eq,decide_eq_false_iff_not]at h0');·have h0'':¬(y.now≥0):=h0';go_wp2;go_ret;exact⟨rfl,cb⟩
 ·have h0'':y.now≥0:=h0';go_wp2;go_ret;exact⟨ay,cb⟩
theorem EW(y:Ca)(w:World):Calls Tryz.prog 102 #[.agg (pL y)] w fun e w'=>e= .returned (.bool (Do y))∧Below w.heap.size w w':=by
 have HR:=Lib.hid (fun W=>yb y W);unfold pL at*;go_enter Tryz.func102,Tryz.ntmps102;go_wp2_with fail;refine en 1 [(41,12,_)] ?_;intro WB HB d0 sWB fHB;simp only[Bx,Bo]at fHB;refine(AG _).mono ?_;rintro e w1⟨rfl,hb⟩;have HB1:=cD hb HB;have d1:=dE d0 hb;have s1:=hb.size;have fB1:=HB1.out;simp only[Bx,Bo]at fB1;clear hb fHB;go_wp2_with fail;refine(xY _).mono ?_;rintro e w2⟨rfl,hb⟩;have b2:Below w1.heap.size w1 w2:=xT;have HP2:=Lib.hid (show Bx w2 w1.heap.size [(247,1,#[I 3])]by rw[hb];exact dY);have HB2:=cD b2 HB1;have d2:=dE d1 b2;have s2:=HP2.out.1.2.2.2.1;have fB2:=HB2.out;have fP2:=HP2.out;simp only[Bx,Bo]at fB2 fP2;clear hb fB1 b2;go_wp2_with fail;go_loopg[13]1(fun g s13 wr=>∃k:Nat,s13= .int .i64 k∧k+g=1∧(k=0∨Hid (Do y=true))∧aw w2 wr);case atStart=>exact⟨0,rfl,aa,.inl rfl,⟨Below.refl _ _⟩⟩
 case round=>
  obtain⟨k,rfl,hk1,hg,hK⟩:=hrel;have HBr:=Bx.mono hK.out HB2.out aF;have HPr:=Bx.mono hK.out HP2.out aF;simp only[Bx,Bo]at HBr HPr;rcases(aa:k=0∨k=1)with rfl|rfl;·
   go_wp2_with fail;refine(HR.out _).mono ?_;rintro e w3⟨rfl,hb⟩;have k3:=hK.out.trans (hb.mono hK.out.size);clear hb;cases hr:Do y<;>replace hr:=Lib.hid hr;·go_wp2;go_ret;exact⟨by rw[hr.out];rfl,d2.trans (k3.mono aa)⟩
   ·go_wp2_with fail;go_roundg 0;case measure=>omega
    case rel=>exact⟨1,rfl,aa,.inr hr,⟨k3⟩⟩
  ·obtain hg:=hg.resolve_left az;go_wp2;go_ret;exact⟨by rw[hg.out];rfl,d2.trans (hK.out.mono aa)⟩
theorem zt(K:Array Value)(hK:K.size=16)(hK1:bB K=true)(y:Ca)(Fx:Nat)(hF:Fx=104∧Do y=true∨Fx=103∧Do y=false)(w:World):Calls Tryz.prog 66 #[.agg K,.agg (pL y)] w fun e w'=>e= .returned (.func (.func Fx) #[.agg (K++pL y)] #[])∧Below w.heap.size w w':=by have hm:=Q1;have HR:=fun W=>EW y W;rcases hF with⟨rfl,hr⟩|⟨rfl,hr⟩;all_goals(rw[hr]at HR;replace HR:=Lib.hid HR;obtain⟨k0,k1,k2,k3,k4,k5,k6,k7,k8,k9,k10,k11,k12,k13,k14,k15,rfl,hk⟩:=B5 hK hK1;unfold pL at*;rw[show#[k0,k1,k2,k3,k4,k5,k6,k7,k8,k9,k10,k11,k12,k13,k14,k15]++(#[I 3,y.s,J y.hi,J y.lo,y.p,y.s2,J y.h2,J y.l2,y.b2,y.now,y.num,y.g]:AV)=(#[k0,k1,k2,k3,k4,k5,k6,k7,k8,k9,k10,k11,k12,k13,k14,k15,I 3,y.s,J y.hi,J y.lo,y.p,y.s2,J y.h2,J y.l2,y.b2,y.now,y.num,y.g]:AV)from rfl];clear hK hK1;go_enter Tryz.func66,Tryz.ntmps66;go_wp2_with fail;refine en 3 [(29,16,_),(41,12,_),(205,28,_)] ?_;intro WB HB d0 sWB fHB;simp only[Bx,Bo]at fHB;refine(HR.out _).mono ?_;rintro e w1⟨rfl,hb⟩;have HB1:=cD hb HB;have d1:=dE d0 hb;have s1:=hb.size;have fB1:=HB1.out;simp only[Bx,Bo]at fB1;clear hb fHB;all_goals go_wp2;go_ret;exact⟨rfl,d1⟩)
theorem pM(K:Array Value)(hK:K.size=16)(hK1:bB K=true)(y:Ca)(Fx:Nat)(hF:Fx=104∧Do y=true∨Fx=103∧Do y=false)(w:World):Calls Tryz.prog 37 #[.agg K,.agg (pL y)] w fun e w'=>e= .returned (.func (.func Fx) #[.agg (K++pL y)] #[])∧Below w.heap.size w w':=by have HR:=Lib.hid (fun W=>zt K hK hK1 y Fx hF W);generalize K++pL y=KD at*;unfold pL at*;go_enter Tryz.func37,Tryz.ntmps37;go_wp2_with fail;refine en 2 [(29,16,_),(41,12,_)] ?_ (by repeat' first|assumption|constructor);intro WB HB d0 sWB fHB;simp only[Bx,Bo]at fHB;refine(HR.out _).mono ?_;rintro e w1⟨rfl,hb⟩;have d1:=dE d0 hb;clear hb fHB;go_wp2;go_ret;exact⟨rfl,d1⟩
end
end Go.Proofs.YtnncjbkepakgpaaGreat
