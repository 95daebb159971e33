/- TAPE: A LIST WITH ONE MORE IS WRITTEN. LOCKS AND COUNTERS, BY ONE. OPERATIONS THAT MAY BE. MEMORY: MAY IT BE; SWAP. A MANAGER's OPERATIONS. ONE ACCEPT, BY A MANAGER. -/
import Derived.Test.YtnncjbkepakgpaaGreatA45
namespace Go.Proofs.YtnncjbkepakgpaaGreat
open Go.RowKit Qv
set_option linter.unusedVariables false
set_option linter.unusedSimpArgs false
set_option maxRecDepth 100000
set_option maxHeartbeats 1500000
section
attribute[local go_sem↓]bI bu bZ bO aZ aW
attribute[local go_sem]bT cd cz cK dC bq mf kf kv i9 ma kc l9 ka mc ke kw ja mg kg
theorem one_cell{W:World}{r v:Value}(h:Sl W r 1 [#[v]]):∃g o cap,r= .slice (some ⟨g,o,none⟩) 1 cap∧g<W.heap.size∧W.cell? ⟨g,o,none⟩=some v:=by
 obtain⟨a,cap,rfl,h1,h2,h3⟩:=h;rcases h3 with⟨_,h3⟩|⟨g,o,rfl,hg,h3⟩;·simp at h3
 ·refine⟨g,o,cap,rfl,hg,?_⟩;have:=(h3 0 _ rfl).cell (k:=0) (v:=v) rfl;simpa using this
end
section
attribute[local go_sem]dC l5 mF ik im ij il nZ l4 lZ mH kP kO jp mD gL jh ky lJ jW qQ bW bF bi jP iq iJ gJ kt kF Qs Qt Qu List.take_succ_cons List.take_zero List.drop_succ_cons List.drop_zero List.cons_append List.nil_append List.length_cons List.length_nil List.size_toArray
theorem Iz(a:Addr)(w:World):(callFunc 393 #[.pointer (some a)]).run Tryz.prog w= .ok (.value (.tuple #[])) w:=run_call_marked Tryz.func393 af af af .read af a w
theorem IA(a:Addr)(w:World):(callFunc 394 #[.pointer (some a)]).run Tryz.prog w= .ok (.value (.tuple #[])) w:=run_call_marked Tryz.func394 af af af .releaseMerge af a w
theorem Dp(w:World):(callFunc 395 #[]).run Tryz.prog w= .ok (.value (.tuple #[])) w:=run_call_mark0 Tryz.func395 af af af .disable af w
theorem Ln(w:World):(callFunc 398 #[]).run Tryz.prog w= .ok (.value (.tuple #[])) w:=run_call_mark0 Tryz.func398 af af af .enable af w
theorem Mq(a:Addr)(w:World):(callFunc 405 #[.pointer (some a)]).run Tryz.prog w= .ok (.value (.tuple #[])) w:=run_call_marked Tryz.func405 af af af .acquire af a w
theorem rq{w:World}{b o p:Nat}{v x:Value}(h:w.cell? ⟨b,p,none⟩=some x)(hn:p≠o):(w.setCell ⟨b,o,none⟩ v).cell? ⟨b,p,none⟩=some x:=(World.cell?_setCell_other _ ⟨b,o,none⟩ ⟨b,p,none⟩ _ (by first|(simp;done)|simpa using hn)).trans h
theorem EX(b o:Nat)(x0 x2 x3:Value)(w:World)(c0:w.cell? ⟨b,o,none⟩=some x0)(c2:w.cell? ⟨b,o+2,none⟩=some x2)(c3:w.cell? ⟨b,o+3,none⟩=some x3)(hc:w.cell? ⟨b,o+4,none⟩=some (.int .i32 0))(hz:w.frozen? ⟨b,o+4,none⟩=false):Calls Tryz.prog 391 #[H b o] w fun e w'=>e= .returned (.tuple #[])∧w'=w.setCell ⟨b,o+4,none⟩ (.int .i32 1):=by have h1:=Iz;have h2:=Dp;have h3:=Ln;have h4:=Mq;have v0:=run_convert_to_unsafe (P:=Tryz.prog) (src:=462) (dst:=461) Tryz.underlying462 Tryz.underlying461 af c0;have hadd:=run_call_add (P:=Tryz.prog) Tryz.func409 af af af .i32 af (y:=1) (s:=1) hc hz (by simp[go_sem];rfl);have c2':=rq (o:=o+4) (v:=.int .i32 1) c2 aa;have v2:=run_convert_to_unsafe (P:=Tryz.prog) (src:=463) (dst:=461) Tryz.underlying463 Tryz.underlying461 af c2';have c3':=rq (o:=o+4) (v:=.int .i32 1) c3 aa;have v3:=run_convert_to_unsafe (P:=Tryz.prog) (src:=463) (dst:=461) Tryz.underlying463 Tryz.underlying461 af c3';go_enter Tryz.func391,Tryz.ntmps391;go_wp2;go_end0;exact⟨rfl,rfl⟩
theorem zy(b o:Nat)(x0 x2 x3:Value)(w:World)(c0:w.cell? ⟨b,o,none⟩=some x0)(c2:w.cell? ⟨b,o+2,none⟩=some x2)(c3:w.cell? ⟨b,o+3,none⟩=some x3)(hc:w.cell? ⟨b,o+4,none⟩=some (.int .i32 1))(hz:w.frozen? ⟨b,o+4,none⟩=false):Calls Tryz.prog 384 #[H b o] w fun e w'=>e= .returned (.tuple #[])∧w'=w.setCell ⟨b,o+4,none⟩ (.int .i32 0):=by have h1:=Iz;have h2:=Dp;have h3:=Ln;have h4:=IA;have v0:=run_convert_to_unsafe (P:=Tryz.prog) (src:=462) (dst:=461) Tryz.underlying462 Tryz.underlying461 af c0;have v3:=run_convert_to_unsafe (P:=Tryz.prog) (src:=463) (dst:=461) Tryz.underlying463 Tryz.underlying461 af c3;have v2:=run_convert_to_unsafe (P:=Tryz.prog) (src:=463) (dst:=461) Tryz.underlying463 Tryz.underlying461 af c2;have hadd:=run_call_add (P:=Tryz.prog) Tryz.func409 af af af .i32 af (y:=-1) (s:=0) hc hz (by simp[go_sem];rfl);go_enter Tryz.func384,Tryz.ntmps384;go_wp2;go_end0;exact⟨rfl,rfl⟩
theorem Ev(b o:Nat)(w:World)(hc:w.cell? ⟨b,o,none⟩=some (.int .i32 0))(hz:w.frozen? ⟨b,o,none⟩=false):Calls Tryz.prog 390 #[H b o] w fun e w'=>e= .returned (.tuple #[])∧w'=w.setCell ⟨b,o,none⟩ (.int .i32 1):=by
 have h2:=Dp;have h3:=Ln;have h4:=Mq;have hcas:=run_call_cas_hit (P:=Tryz.prog) Tryz.func411 af af af .i32 af (y:=1) hc hz;have hc':=World.cell?_setCell_same w ⟨b,o,none⟩ (.int .i32 1) hc;have v0:=run_convert_to_unsafe (P:=Tryz.prog) (src:=473) (dst:=461) Tryz.underlying473 Tryz.underlying461 af hc';go_enter Tryz.func390,Tryz.ntmps390;go_wp2;first|go_end0|refine bodyPost_ret (results_none rfl _ _ _) rfl ?_
 go_wp2;first|go_end0|refine bodyPost_ret (results_none rfl _ _ _) rfl ?_
 exact⟨rfl,rfl⟩
theorem Ad(b o:Nat)(w:World)(hc:w.cell? ⟨b,o,none⟩=some (.int .i32 1))(hz:w.frozen? ⟨b,o,none⟩=false):Calls Tryz.prog 386 #[H b o] w fun e w'=>e= .returned (.tuple #[])∧w'=w.setCell ⟨b,o,none⟩ (.int .i32 0):=by
 have h2:=Dp;have h3:=Ln;have h4:=IA;have v0:=run_convert_to_unsafe (P:=Tryz.prog) (src:=473) (dst:=461) Tryz.underlying473 Tryz.underlying461 af hc;have hadd:=run_call_add (P:=Tryz.prog) Tryz.func409 af af af .i32 af (y:=-1) (s:=0) hc hz (by simp[go_sem];rfl);go_enter Tryz.func386,Tryz.ntmps386;go_wp2;first|go_end0|refine bodyPost_ret (results_none rfl _ _ _) rfl ?_
 go_wp2;first|go_end0|refine bodyPost_ret (results_none rfl _ _ _) rfl ?_
 exact⟨rfl,rfl⟩
theorem uU(b o:Nat)(x:Value)(y:Int)(w:World)(hc:w.cell? ⟨b,o,none⟩=some x)(hz:w.frozen? ⟨b,o,none⟩=false):Calls Tryz.prog 36 #[H b o,y] w fun e w'=>e= .returned (.tuple #[])∧w'=w.setCell ⟨b,o,none⟩ y:=by have hst:=run_call_store (P:=Tryz.prog) Tryz.func64 af af af af (k:=.i64) (y:=y) hc hz;go_enter Tryz.func36,Tryz.ntmps36;go_wp2;go_end0;exact⟨rfl,rfl⟩
theorem G2(b o:Nat)(x:Int)(w:World)(hc:w.cell? ⟨b,o,none⟩=some (.int .i64 x)):Calls Tryz.prog 388 #[H b o] w fun e w'=>e= .returned x∧w=w':=by have hst:=run_call_load (P:=Tryz.prog) Tryz.func403 af af af .i64 af hc;go_enter Tryz.func388,Tryz.ntmps388;go_wp2;go_ret;exact⟨rfl,rfl⟩
theorem Kr(b o:Nat)(x y:Int)(w:World)(hc:w.cell? ⟨b,o,none⟩=some (.int .i64 x))(hz:w.frozen? ⟨b,o,none⟩=false):Calls Tryz.prog 392 #[H b o,x,y] w fun e w'=>e= .returned Y∧w'=w.setCell ⟨b,o,none⟩ y:=by have hst:=run_call_cas_hit (P:=Tryz.prog) Tryz.func408 af af af .i64 af (y:=y) hc hz;go_enter Tryz.func392,Tryz.ntmps392;go_wp2;go_ret;exact⟨rfl,rfl⟩
end
section
attribute[local go_sem↓]bI bu dQ dA
attribute[local go_sem]bT cd ez fP dC bq
end
section
attribute[local go_sem↓]ew dR jv iC dQ dA bZ bO bI bu
attribute[local go_sem]fy eZ kJ jy ez fP cz cK bT cd dC bq eV eW gW gV fz
end
section
attribute[local go_sem↓]bI bu bZ bO aZ aW
attribute[local go_sem]bT cd cz cK dC bq eV eW gW gV fz
theorem eg{p:Prop}(h:PQ p:=by have hc:=aI hr;have hM:=bd hr;have hne:¬(M=w.heap.size):=aa;have hen:¬(w.heap.size=M):=aa;have hM1:M<w.heap.size+1:=aa;have hM2:M<w.heap.size+1+1:=aa;have hM3:M<w.heap.size+1+1+1:=aa;have hM4:M<w.heap.size+1+1+1+1:=aa;have ne1:¬(w.heap.size+1=w.heap.size):=aa;have en1:¬(w.heap.size=w.heap.size+1):=aa;have ne2:¬(w.heap.size+1+1=w.heap.size):=aa;have en2:¬(w.heap.size=w.heap.size+1+1):=aa;have ne3:¬(w.heap.size+1+1+1=w.heap.size):=aa;have en3:¬(w.heap.size=w.heap.size+1+1+1):=aa;have ne4:¬(w.heap.size+1+1+1+1=w.heap.size):=aa;have en4:¬(w.heap.size=w.heap.size+1+1+1+1):=aa;exact pq (And.intro hc (And.intro hM (And.intro hne (And.intro hen (And.intro hM1 (And.intro hM2 (And.intro hM3 (And.intro hM4 (And.intro ne1 (And.intro en1 (And.intro ne2 (And.intro en2 (And.intro ne3 (And.intro en3 (And.intro ne4 en4)))))))))))))))):p:=h
theorem sQ{p:Prop}(h:PQ p:=by have bw:Below w.heap.size w WG:=Pc;have hrW:aK WG M 134 60=true:=gu;have hCW:aH WG M=C:=gu;have bR0:aK WG (w.heap.size) 140 1=true:=gu;have bV0:aH WG (w.heap.size)=(#[H M 0]:AV):=gu;have bC0:=aI bR0;have bL0:w.heap.size<WG.heap.size:=Av;have bn0:¬(w.heap.size=M):=aa;have nb0:¬(M=w.heap.size):=aa;have bR1:aK WG (w.heap.size+1) 101 3=true:=gu;exact pq (And.intro bw (And.intro hrW (And.intro hCW (And.intro bR0 (And.intro bV0 (And.intro bC0 (And.intro bL0 (And.intro bn0 (And.intro nb0 bR1)))))))))):p:=h
theorem tt{p:Prop}(h:p:=by
 simp only[aU];go_wp2_with fail;refine am (Aw) ?_;refine aX 8 af af ?_;simp only[aU];refine MN rfl (.tmp 62) (.tmp 65) rfl W2.heap.size _ [] [#[F,U,J (aM c),I 80,Y,I (Pm.tOf c),Z,I (Pm.tOf c),Z,Z]] rfl (aV.nil _ _ _ _) _ _ _ rfl ((cY W2 (#[F,U,J (aM c),I 80,Y,I (Pm.tOf c),Z,I (Pm.tOf c),Z,Z]) 75 10 _ rfl rfl rfl).same (Nat.le_refl _) (fun _ _ _=>rfl)) ay (by show _≤(World.alloc _ _).heap.size;rw[World.size_alloc];omega) ?_;intro v7 w7 hown hbel hsame hsz7;have hsb:Below W2.heap.size W2 w7:=(((Below.refl W2.heap.size W2).alloc (Nat.le_refl _) _).drew).trans hbel;have hU7:=Lib.hid (ax.of_below (T:=M) hsb);have HO7:=Lib.hid (show aV w7 W2.heap.size 75 10 v7 [#[F,U,J (aM c),I 80,Y,I (Pm.tOf c),Z,I (Pm.tOf c),Z,Z]]from hown);obtain⟨a7,c7,ev,-⟩:=hown.sl;subst ev;have hr7:aK w7 M 134 60=true:=((dJ hsb).1 _ _ _ hMW2).trans hrW2;have hC7:aH w7 M=C:=((dJ hsb).2.1 _ hMW2).trans hCW2;have hc7:=aI hr7;have hs7:=hsb.size;clear hown hbel hsame;go_wp2;refine am (Aw) ?_;refine bb [9,10] 1 rfl af (fun _ _ d _ _ h=>bo) (Aw) ?_;simp only[PL];apply ae;·exact jt
 try simp only[PT]
 apply ae;·exact jt
 try simp only[PT]
 refine aC ?_;refine aX 11 af af ?_;simp only[aU];go_wp2_with fail;refine am (Aw) ?_;refine cw af ?_;go_wp2;first|go_end0|refine bodyPost_ret (results_none rfl _ _ _) rfl ?_
 refine⟨E a7 1 c7,rfl,(ax.of_below bw2).trans (by first|exact hU7.out.set _ _|(go_simp;exact aP hU7.out _)),by first|(go_simp;done)|(go_simp;exact(lp hr7 hC7 _ _).1),by first|(go_simp;done)|(go_simp;exact(lp hr7 hC7 _ _).2),?_⟩;first|exact(HO7.out.upto ((ax.refl M w7).set _ _) hMW2).weaken bw2.size|(go_simp;exact(HO7.out.upto (aP (ax.refl M w7) _) hMW2).weaken bw2.size)):p:=h
theorem tv{p:Prop}(h:p:=by
 refine bodyPost_ret (v:=.agg (#[n,F,U,U,Z,F,Z,Z,Z,Z,Z,V,V])) (aN (t:=103) Tryz.results378 _ _ _ rfl ?_ ?_ cy ea) rfl ?_;·go_simp
 ·go_simp
 exact⟨rfl,bY⟩):p:=h
theorem CP:(Tryz.prog.info? 140).map (·.size)=some 1:=af
theorem tR:lj 140:=fun _ _ _ _ _ _ _=>rfl
theorem wW:lh 140 1:=l6 CP Tryz.underlying140 rfl
theorem rU:ll 140:=fun _ _ _ _ _ _ _ _=>rfl
theorem uh:li 140 1:=mG CP
attribute[local go_sem↓]tR rU
attribute[local go_sem]wW uh
theorem rF(w:World):w.drew.heap.size=w.heap.size:=id rfl
attribute[local go_sem high]rF
attribute[local simp high]rF
theorem sx(a:Addr)(w:World):(method 586 140 (.agg #[.pointer (some a)]) "Drop").run Tryz.prog w= .ok (376,.agg #[.pointer (some a)]) w:=af
theorem pQ(a:Addr)(w:World):(nilAhead 586 140 (.agg #[.pointer (some a)]) "Drop").run Tryz.prog w= .ok (some false) w:=af
theorem sy(a:Addr)(w:World):(method 586 140 (.agg #[.pointer (some a)]) "Free").run Tryz.prog w= .ok (377,.agg #[.pointer (some a)]) w:=af
theorem pR(a:Addr)(w:World):(nilAhead 586 140 (.agg #[.pointer (some a)]) "Free").run Tryz.prog w= .ok (some false) w:=af
theorem sC(a:Addr)(w:World):(method 586 140 (.agg #[.pointer (some a)]) "Load").run Tryz.prog w= .ok (378,.agg #[.pointer (some a)]) w:=af
theorem pT(a:Addr)(w:World):(nilAhead 586 140 (.agg #[.pointer (some a)]) "Load").run Tryz.prog w= .ok (some false) w:=af
theorem sD(a:Addr)(w:World):(method 586 140 (.agg #[.pointer (some a)]) "Lock").run Tryz.prog w= .ok (379,.agg #[.pointer (some a)]) w:=af
theorem pU(a:Addr)(w:World):(nilAhead 586 140 (.agg #[.pointer (some a)]) "Lock").run Tryz.prog w= .ok (some false) w:=af
theorem pW(a:Addr)(w:World):(method 586 140 (.agg #[.pointer (some a)]) "Share").run Tryz.prog w= .ok (381,.agg #[.pointer (some a)]) w:=af
theorem od(a:Addr)(w:World):(nilAhead 586 140 (.agg #[.pointer (some a)]) "Share").run Tryz.prog w= .ok (some false) w:=af
theorem pX(a:Addr)(w:World):(method 586 140 (.agg #[.pointer (some a)]) "Store").run Tryz.prog w= .ok (382,.agg #[.pointer (some a)]) w:=af
theorem oe(a:Addr)(w:World):(nilAhead 586 140 (.agg #[.pointer (some a)]) "Store").run Tryz.prog w= .ok (some false) w:=af
theorem sF(a:Addr)(w:World):(method 586 140 (.agg #[.pointer (some a)]) "Swap").run Tryz.prog w= .ok (383,.agg #[.pointer (some a)]) w:=af
theorem pV(a:Addr)(w:World):(nilAhead 586 140 (.agg #[.pointer (some a)]) "Swap").run Tryz.prog w= .ok (some false) w:=af
def ra(M:Nat)(C:Array Value)(v:Value)(w:World)(e:Ending)(w':World):Prop:=e= .returned v∧ax M w w'∧aK w' M 134 60=true∧aH w' M=C
theorem lp{W:World}{M:Nat}{C:Array Value}(hr:aK W M 134 60=true)(hC:aH W M=C)(i:Nat)(v:Value):aK (W.setRow M (C.setIfInBounds i v)) M 134 60=true∧aH (W.setRow M (C.setIfInBounds i v)) M=C.setIfInBounds i v:=by have hc:=aI hr;exact⟨fd _ hr (by rw[Array.size_setIfInBounds,←hC];exact(bK hr).2),fa _ hc⟩
theorem NJ(M:Nat)(C:Array Value)(h32:C[32]? =some (.int .i32 0))(w:World)(hr:aK w M 134 60=true)(hC:aH w M=C):Calls Tryz.prog 379 #[.agg #[H M 0],I 3,F] w (ra M (C.setIfInBounds 32 (.int .i32 1)) (.tuple #[]) w):=by
 obtain⟨hc,hM,hne,hen,hM1,hM2,hM3,hM4,ne1,en1,ne2,en2,ne3,en3,ne4,en4⟩:=eg;go_enter Tryz.func379,Tryz.ntmps379;go_wp2_with(go_at_call 390;refine(Ev M 32 _ bG bG).mono ?_;rintro e w'⟨rfl,rfl⟩);first|go_end0|refine bodyPost_ret (results_none rfl _ _ _) rfl ?_
 exact⟨rfl,Jv,Jw,Jx⟩
theorem NI(M:Nat)(b:Bool)(C:Array Value)(h32:C[32]? =some (.int .i32 1))(w:World)(hr:aK w M 134 60=true)(hC:aH w M=C):Calls Tryz.prog 377 #[.agg #[H M 0],I 3,b] w (ra M (C.setIfInBounds 32 (.int .i32 0)) (.tuple #[]) w):=by
 obtain⟨hc,hM,hne,hen,hM1,hM2,hM3,hM4,ne1,en1,ne2,en2,ne3,en3,ne4,en4⟩:=eg;go_enter Tryz.func377,Tryz.ntmps377;go_wp2_with(go_at_call 386;refine(Ad M 32 _ bG bG).mono ?_;rintro e w'⟨rfl,rfl⟩);first|go_end0|refine bodyPost_ret (results_none rfl _ _ _) rfl ?_
 exact⟨rfl,Jv,Jw,Jx⟩
theorem Kn(M:Nat)(C:Array Value)(x18:Value)(x20:Value)(x21:Value)(h18:C[18]? =some (x18))(h20:C[20]? =some (x20))(h21:C[21]? =some (x21))(h22:C[22]? =some (.int .i32 0))(w:World)(hr:aK w M 134 60=true)(hC:aH w M=C):Calls Tryz.prog 381 #[.agg #[H M 0],Z,F] w (ra M (C.setIfInBounds 22 (.int .i32 1)) (.tuple #[]) w):=by
 obtain⟨hc,hM,hne,hen,hM1,hM2,hM3,hM4,ne1,en1,ne2,en2,ne3,en3,ne4,en4⟩:=eg;go_enter Tryz.func381,Tryz.ntmps381;go_wp2_with(go_at_call 391;refine(EX M 18 x18 x20 x21 _ bG bG bG bG bG).mono ?_;rintro e w'⟨rfl,rfl⟩);first|go_end0|refine bodyPost_ret (results_none rfl _ _ _) rfl ?_
 exact⟨rfl,Jv,Jw,Jx⟩
theorem NH(M:Nat)(C:Array Value)(x18:Value)(x20:Value)(x21:Value)(h18:C[18]? =some (x18))(h20:C[20]? =some (x20))(h21:C[21]? =some (x21))(h22:C[22]? =some (.int .i32 1))(w:World)(hr:aK w M 134 60=true)(hC:aH w M=C):Calls Tryz.prog 376 #[.agg #[H M 0],Z,F] w (ra M (C.setIfInBounds 22 (.int .i32 0)) (.tuple #[]) w):=by
 obtain⟨hc,hM,hne,hen,hM1,hM2,hM3,hM4,ne1,en1,ne2,en2,ne3,en3,ne4,en4⟩:=eg;go_enter Tryz.func376,Tryz.ntmps376;go_wp2_with(go_at_call 384;refine(zy M 18 x18 x20 x21 _ bG bG bG bG bG).mono ?_;rintro e w'⟨rfl,rfl⟩);first|go_end0|refine bodyPost_ret (results_none rfl _ _ _) rfl ?_
 exact⟨rfl,Jv,Jw,Jx⟩
theorem uT(M:Nat)(C:Array Value)(w:World)(hr:aK w M 134 60=true)(hC:aH w M=C):Calls Tryz.prog 387 #[.agg #[H M 0],.agg #[I 1,Z,Z]] w fun e w'=>e= .returned (H M 16)∧Below w.heap.size w w':=by obtain⟨hc,hM,hne,hen,hM1,hM2,hM3,hM4,ne1,en1,ne2,en2,ne3,en3,ne4,en4⟩:=eg;go_enter Tryz.func387,Tryz.ntmps387;go_wp2;go_ret;exact⟨rfl,nO⟩
theorem Em(M:Nat)(C:Array Value)(n:Int)(h16:C[16]? =some (.int .i64 n))(w:World)(hr:aK w M 134 60=true)(hC:aH w M=C):Calls Tryz.prog 378 #[.agg #[H M 0],.agg #[I 1,Z,Z],F] w fun e w'=>e= .returned (.agg (#[n,F,U,U,Z,F,Z,Z,Z,Z,Z,V,V]))∧Below w.heap.size w w':=by obtain⟨hc,hM,hne,hen,hM1,hM2,hM3,hM4,ne1,en1,ne2,en2,ne3,en3,ne4,en4⟩:=eg;go_enter Tryz.func378,Tryz.ntmps378;go_wp2_with(first|(go_at_call 387;refine(uT M C _ bG bG).mono ?_;rintro e w1⟨rfl,hb⟩;have hk:=aw.mk hb;have xx:=cZ hk.out;(try have zz:=zs w.heap.size w1.heap.size);clear hb)|(go_at_call 388;refine(G2 M 16 n _ bG).mono ?_;rintro e w'⟨rfl,rfl⟩));exact tv
theorem yv(M:Nat)(C:Array Value)(h24:C[24]? =some (.slice none 0 0))(w:World)(hr:aK w M 134 60=true)(hC:aH w M=C):Calls Tryz.prog 378 #[.agg #[H M 0],.agg #[I 3,Z,Z],F] w fun e w'=>e= .returned (.agg (#[Z,F,U,U,Z,F,Z,Z,Z,Z,Z,V,V]))∧Below w.heap.size w w':=by
 obtain⟨hc,hM,hne,hen,hM1,hM2,hM3,hM4,ne1,en1,ne2,en2,ne3,en3,ne4,en4⟩:=eg;go_enter Tryz.func378,Tryz.ntmps378;go_wp2;refine bodyPost_ret (v:=.agg (#[Z,F,U,U,Z,F,Z,Z,Z,Z,Z,V,V])) (aN (t:=103) Tryz.results378 _ _ _ rfl ?_ ?_ cy ea) rfl ?_;·go_simp
 ·go_simp
 exact⟨rfl,bY⟩
theorem yw(M:Nat)(C:Array Value)(n:Int)(h34:C[34]? =some (.int .i64 n))(w:World)(hr:aK w M 134 60=true)(hC:aH w M=C):Calls Tryz.prog 378 #[.agg #[H M 0],.agg #[I 5,I 1,Z],F] w fun e w'=>e= .returned (.agg (#[n,F,U,U,Z,F,Z,Z,Z,Z,Z,V,V]))∧Below w.heap.size w w':=by
 obtain⟨hc,hM,hne,hen,hM1,hM2,hM3,hM4,ne1,en1,ne2,en2,ne3,en3,ne4,en4⟩:=eg;go_enter Tryz.func378,Tryz.ntmps378;go_wp2;refine cN 11 af (aw (((w.alloc (.cells #[H M 0] 140)).alloc (.cells (#[I 5,I 1,Z]) 101)).alloc (.cells (#[Z,F,U,U,Z,F,Z,Z,Z,Z,Z,V,V]) 103))) [0,1,2,3,4,5,6,7,8,9,10] 1 af af (fun _ _ d _ _ h=>bo) ⟨(Below.refl _ _).drew⟩ ?_;simp only[PL];apply ae;·exact iv
 try simp only[PT]
 apply ae;·exact iv
 try simp only[PT]
 apply ae;·exact iv
 try simp only[PT]
 apply ae;·exact iv
 try simp only[PT]
 apply ae;·exact iv
 try simp only[PT]
 apply ae;·exact iv
 try simp only[PT]
 apply ae;·exact iv
 try simp only[PT]
 apply ae;·exact iv
 try simp only[PT]
 apply ae;·exact iv
 try simp only[PT]
 apply ae;·exact iv
 try simp only[PT]
 apply ae;·exact iv
 try simp only[PT]
 refine aC ?_;refine dp 11 rfl af af ?_;simp only[aU];go_wp2_with fail;refine am trivial ?_;refine dX af ?_;go_wp2;exact tv
theorem NK(M:Nat)(C:Array Value)(n m:Int)(h16:C[16]? =some (.int .i64 n))(w:World)(hr:aK w M 134 60=true)(hC:aH w M=C):Calls Tryz.prog 383 #[.agg #[H M 0],.agg #[I 1,Z,Z],n,m,Y] w (ra M (C.setIfInBounds 16 m) Y w):=by obtain⟨hc,hM,hne,hen,hM1,hM2,hM3,hM4,ne1,en1,ne2,en2,ne3,en3,ne4,en4⟩:=eg;go_enter Tryz.func383,Tryz.ntmps383;go_wp2_with(first|(go_at_call 387;refine(uT M C _ bG bG).mono ?_;rintro e w1⟨rfl,hb⟩;have hk:=aw.mk hb;have xx:=cZ hk.out;(try have zz:=zs w.heap.size w1.heap.size);clear hb)|(go_at_call 392;refine(Kr M 16 n m _ bG bG).mono ?_;rintro e w'⟨rfl,rfl⟩));go_ret;have hr1:aK w1 M 134 60=true:=bG;have hC1:aH w1 M=C:=bG;have hU1:ax M w w1:=(ax.of_below (bY));exact⟨rfl,by first|exact hU1.set _ _|(go_simp;exact aP hU1 _),by first|(go_simp;done)|(go_simp;exact(lp hr1 hC1 _ _).1),by first|(go_simp;done)|(go_simp;exact(lp hr1 hC1 _ _).2)⟩
theorem wG(M:Nat)(C:Array Value)(n:Int)(x34:Value)(h34:C[34]? =some x34)(w:World)(hr:aK w M 134 60=true)(hC:aH w M=C):Calls Tryz.prog 382 #[.agg #[H M 0],.agg #[I 5,I 1,Z],.agg (#[n,F,U,U,Z,F,Z,Z,Z,Z,Z,V,V]),F] w (ra M (C.setIfInBounds 34 n) (.tuple #[]) w):=by
 obtain⟨hc,hM,hne,hen,hM1,hM2,hM3,hM4,ne1,en1,ne2,en2,ne3,en3,ne4,en4⟩:=eg;go_enter Tryz.func382,Tryz.ntmps382;go_wp2_with fail;obtain⟨WG,hWG⟩:∃W,((w.alloc (.cells #[H M 0] 140)).alloc (.cells (#[I 5,I 1,Z]) 101)).alloc (.cells (#[n,F,U,U,Z,F,Z,Z,Z,Z,Z,V,V]) 103)=W:=⟨_,rfl⟩;obtain⟨bw,hrW,hCW,bR0,bV0,bC0,bL0,bn0,nb0,bR1⟩:=sQ;have bV1:aH WG (w.heap.size+1)=(#[I 5,I 1,Z]:AV):=gu;have bC1:=aI bR1;have bL1:w.heap.size+1<WG.heap.size:=Av;have bn1:¬(w.heap.size+1=M):=aa;have nb1:¬(M=w.heap.size+1):=aa;have bR2:aK WG (w.heap.size+1+1) 103 13=true:=gu;have bV2:aH WG (w.heap.size+1+1)=(#[n,F,U,U,Z,F,Z,Z,Z,Z,Z,V,V]:AV):=gu;have bC2:=aI bR2;have bL2:w.heap.size+1+1<WG.heap.size:=Av;have bn2:¬(w.heap.size+1+1=M):=aa;have nb2:¬(M=w.heap.size+1+1):=aa;generalize((w.alloc (.cells #[H M 0] 140)).alloc (.cells (#[I 5,I 1,Z]) 101)).alloc (.cells (#[n,F,U,U,Z,F,Z,Z,Z,Z,Z,V,V]) 103)=W0 at*;subst hWG;have hcW:=aI hrW;have hMW:=bd hrW;refine bA (ax M W0) [0,1,2,3,4,5,6,7,8,9,10] 1 af af (fun _ _ d _ _ h=>bo) (ax.refl _ _).drew ?_;simp only[PL];apply ae;·exact jt
 try simp only[PT]
 apply ae;·exact jt
 try simp only[PT]
 apply ae;·exact jt
 try simp only[PT]
 apply ae;·exact jt
 try simp only[PT]
 apply ae;·exact jt
 try simp only[PT]
 apply ae;·exact jt
 try simp only[PT]
 apply ae;·exact jt
 try simp only[PT]
 apply ae;·exact jt
 try simp only[PT]
 apply ae;·exact jt
 try simp only[PT]
 apply ae;·exact jt
 try simp only[PT]
 apply ae;·exact jt
 try simp only[PT]
 refine aC ?_;refine aX 11 af af ?_;simp only[aU];go_wp2_with fail;refine am (Aw) ?_;refine cw af ?_;go_wp2;first|go_end0|refine bodyPost_ret (results_none rfl _ _ _) rfl ?_
 exact⟨rfl,(ax.of_below bw).trans (by first|exact(ax.refl _ _).drew.set _ _|(go_simp;exact aP (ax.refl _ _).drew _)),by first|(go_simp;done)|(go_simp;exact(lp hrW hCW _ _).1),by first|(go_simp;done)|(go_simp;exact(lp hrW hCW _ _).2)⟩
def DJ(M c:Nat)(C:Array Value)(w:World)(e:Ending)(w':World):Prop:=∃sl,e= .returned (.tuple #[])∧ax M w w'∧aK w' M 134 60=true∧aH w' M=C.setIfInBounds 35 sl∧aV w' w.heap.size 75 10 sl [#[F,U,J (aM c),I 80,Y,I (Pm.tOf c),Z,I (Pm.tOf c),Z,Z]]
theorem wH(M c:Nat)(C:Array Value)(h35:C[35]? =some (.slice none 0 0))(w:World)(hr:aK w M 134 60=true)(hC:aH w M=C):Calls Tryz.prog 382 #[.agg #[H M 0],.agg #[I 6,I 1,Z],.agg (#[Z,F,U,J (aM c),I 80,Y,I (Pm.tOf c),Z,I (Pm.tOf c),Z,Z,V,V]),F] w (DJ M c C w):=by
 obtain⟨hc,hM,hne,hen,hM1,hM2,hM3,hM4,ne1,en1,ne2,en2,ne3,en3,ne4,en4⟩:=eg;go_enter Tryz.func382,Tryz.ntmps382;go_wp2_with fail;obtain⟨WG,hWG⟩:∃W,((w.alloc (.cells #[H M 0] 140)).alloc (.cells (#[I 6,I 1,Z]) 101)).alloc (.cells (#[Z,F,U,J (aM c),I 80,Y,I (Pm.tOf c),Z,I (Pm.tOf c),Z,Z,V,V]) 103)=W:=⟨_,rfl⟩;obtain⟨bw,hrW,hCW,bR0,bV0,bC0,bL0,bn0,nb0,bR1⟩:=sQ;have bV1:aH WG (w.heap.size+1)=(#[I 6,I 1,Z]:AV):=gu;have bC1:=aI bR1;have bL1:w.heap.size+1<WG.heap.size:=Av;have bn1:¬(w.heap.size+1=M):=aa;have nb1:¬(M=w.heap.size+1):=aa;have bR2:aK WG (w.heap.size+1+1) 103 13=true:=gu;have bV2:aH WG (w.heap.size+1+1)=(#[Z,F,U,J (aM c),I 80,Y,I (Pm.tOf c),Z,I (Pm.tOf c),Z,Z,V,V]:AV):=gu;have bC2:=aI bR2;have bL2:w.heap.size+1+1<WG.heap.size:=Av;have bn2:¬(w.heap.size+1+1=M):=aa;have nb2:¬(M=w.heap.size+1+1):=aa;generalize((w.alloc (.cells #[H M 0] 140)).alloc (.cells (#[I 6,I 1,Z]) 101)).alloc (.cells (#[Z,F,U,J (aM c),I 80,Y,I (Pm.tOf c),Z,I (Pm.tOf c),Z,Z,V,V]) 103)=W0 at*;subst hWG;have hcW:=aI hrW;have hMW:=bd hrW;refine bA (aw W0) [0,1,2,3,4,5,6,7,8] 0 af af (fun _ _ d _ _ h=>bo) ⟨(Below.refl _ _).drew⟩ ?_;simp only[PL];apply ae;·exact iv
 try simp only[PT]
 apply ae;·exact iv
 try simp only[PT]
 apply ae;·exact iv
 try simp only[PT]
 apply ae;·exact iv
 try simp only[PT]
 apply ae;·exact iv
 try simp only[PT]
 apply ae;·exact iv
 try simp only[PT]
 apply ae;·exact iv
 try simp only[PT]
 apply ae;·exact iv
 try simp only[PT]
 apply ae;·exact iv
 try simp only[PT]
 refine aC ?_;refine cw af ?_;go_wp2_with fail;refine bA (aw W0.drew) [0,1,2,3,4,5,6,7] 0 af af (fun _ _ d _ _ h=>bo) ⟨(Below.refl _ _).drew⟩ ?_;simp only[PL];apply ae;·exact iv
 try simp only[PT]
 apply ae;·exact iv
 try simp only[PT]
 apply ae;·exact iv
 try simp only[PT]
 apply ae;·exact iv
 try simp only[PT]
 apply ae;·exact iv
 try simp only[PT]
 apply ae;·exact iv
 try simp only[PT]
 apply ae;·exact iv
 try simp only[PT]
 apply ae;·exact iv
 try simp only[PT]
 refine aC ?_;refine cw af ?_;go_wp2_with fail;obtain⟨W2,hW2⟩:∃W2,W2=W0.drew.drew:=⟨_,rfl⟩;have bw2:Below w.heap.size w W2:=by rw[hW2];exact bw.drew.drew
 have hrW2:aK W2 M 134 60=true:=by rw[hW2];exact hrW
 have hCW2:aH W2 M=C:=by rw[hW2];exact hCW
 have hcW2:=aI hrW2;have hMW2:=bd hrW2;have cR0:aK W2 (w.heap.size) 140 1=true:=by rw[hW2];exact bR0
 have cV0:aH W2 (w.heap.size)=(#[H M 0]:AV):=by rw[hW2];exact bV0
 have cC0:=aI cR0;have cL0:=bd cR0;have cR1:aK W2 (w.heap.size+1) 101 3=true:=by rw[hW2];exact bR1
 have cV1:aH W2 (w.heap.size+1)=(#[I 6,I 1,Z]:AV):=by rw[hW2];exact bV1
 have cC1:=aI cR1;have cL1:=bd cR1;have cR2:aK W2 (w.heap.size+1+1) 103 13=true:=by rw[hW2];exact bR2
 have cV2:aH W2 (w.heap.size+1+1)=(#[Z,F,U,J (aM c),I 80,Y,I (Pm.tOf c),Z,I (Pm.tOf c),Z,Z,V,V]:AV):=by rw[hW2];exact bV2
 have cC2:=aI cR2;have cL2:=bd cR2;rw[←hW2];clear hW2 bR0 bV0 bC0 bL0 bR1 bV1 bC1 bL1 bR2 bV2 bC2 bL2 bw hrW hCW hcW hMW;refine bA (ax M W2) [0,1,2,3,5,6] 6 af af (fun _ _ d _ _ h=>bo) (ax.refl _ _).drew ?_;simp only[PL];apply ae;·exact jt
 try simp only[PT]
 apply ae;·exact jt
 try simp only[PT]
 apply ae;·exact jt
 try simp only[PT]
 apply ae;·exact jt
 try simp only[PT]
 apply ae;·exact jt
 try simp only[PT]
 apply ae;·exact jt
 try simp only[PT]
 refine aC ?_;refine fT 4 7 af af af ?_ ?_;·simp only[aU];go_wp2_with fail;refine am (Aw) ?_;refine aX 7 af af ?_;exact tt
 ·simp only[aU];go_wp2_with fail;refine am (Aw) ?_;refine aX 4 af af ?_;exact tt
end
section
attribute[local go_sem↓]bI bu bZ bO aZ aW dN dw da cJ bv bj dt db dM dv
attribute[local go_sem]bT cd cz cK eB dP dx dc bN bz dT dy eA dO dC bq sD pU pW od sy pR sx pQ sC pT pX oe sF pV lE iD lF jL nf se sf
theorem tw{p:Prop}(h:p:=by obtain⟨x1,x2,x3,x4,x5,x6,x7,x8,x9,x10,y9⟩:=cZ hS.out;(try have zz:=zs w.heap.size W.heap.size);go_simp;try first|with_reducible rfl|(go_at_call 245;refine(tp 1 _).mono ?_;rintro e w'⟨rfl,rfl⟩;exact⟨rfl,cP hS (nO)⟩)):p:=h
theorem rH(w:World):w.drew.heap.size=w.heap.size:=id rfl
attribute[local go_sem high]rH
attribute[local simp high]rH
theorem cm{W W':World}{M:Nat}{C:Array Value}(hr:aK W M 134 60=true)(hC:aH W M=C)(k:Below W.heap.size W W'):aK W' M 134 60=true∧aH W' M=C:=by have:=EY k hr;exact⟨this.1,this.2.trans hC⟩
theorem br{C:Array Value}{i j:Nat}(h:i≠j)(v:Value):(C.setIfInBounds i v)[j]? =C[j]? :=by simp[Array.getElem?_setIfInBounds,h]
theorem wF{C:Array Value}{i:Nat}(h:i<C.size)(v:Value):(C.setIfInBounds i v)[i]? =some v:=by simp[Array.getElem?_setIfInBounds,h]
theorem lP{W:World}{M:Nat}{C:Array Value}(hr:aK W M 134 60=true)(hC:aH W M=C):C.size=60:=by rw[←hC];exact(bK hr).2
theorem Om(M:Nat)(C:Array Value)(h34:C[34]? =some (.int .i64 0))(w:World)(hr:aK w M 134 60=true)(hC:aH w M=C):Calls Tryz.prog 191 #[.iface 140 (.agg #[H M 0]),I 1] w fun e w'=>e= .returned V∧Below w.heap.size w w':=by
 go_enter Tryz.func191,Tryz.ntmps191;go_upto_region 2 with(fail);refine eU [9] [0,1,2,3,4,5] [6,7,8] af af (fun _ _ d _ _ h=>bo) ?_;simp only[PL];apply iF;·intro W;go_simp;try with_reducible rfl
 try simp only[PT]
 refine ge ?_;repeat
  (
   first|go_big_quiet_skip|
    (
     go_big_quiet_want;apply bp;·intro W hS;exact tw
     go_big_quiet_on;try simp only[PT]))
 refine wpQuiet_nil ?_;intro w1 hS1;have xxa:=cZ hS1.out;(try have zza:=zs w.heap.size w1.heap.size);obtain⟨hr1,hC1⟩:=cm hr hC hS1.out;go_wp2_with(go_at_call 378;refine(yw M C 0 h34 _ hr1 hC1).mono ?_;rintro e w2⟨rfl,hb⟩);have hb2:=Lib.hid (hS1.out.trans (hb.mono hS1.out.size));clear hb;go_loopg[5,16]0(fun g s5 s16 wr=>s5= .slice none 0 0∧s16= .int .i64 0∧wr=w2);case atStart=>exact⟨rfl,rfl,rfl⟩
 case round=>obtain⟨rfl,rfl,rfl⟩:=hrel;go_wp2;exact bodyPost_ret (results_tmp rfl _ _ _) rfl ⟨rfl,hb2.out⟩
theorem EV(M:Nat)(C:Array Value)(h16:C[16]? =some (.int .i64 0))(w:World)(hr:aK w M 134 60=true)(hC:aH w M=C):Calls Tryz.prog 193 #[.iface 140 (.agg #[H M 0]),I 2,Y] w (ra M (C.setIfInBounds 16 (I 1)) Y w):=by
 have hM:=bd hr;have hne:¬(M=w.heap.size):=aa;obtain⟨hr0,hC0⟩:=cm hr hC ((Below.refl w.heap.size w).alloc (Nat.le_refl _) (.cells (#[I 1,Z,Z]) 101));go_enter Tryz.func193,Tryz.ntmps193;go_wp2;go_loopg[8]1(fun g s8 wr=>wr=w.alloc (.cells (#[I 1,Z,Z]) 101));case atStart=>rfl
 case round=>subst hrel;have bw:Below w.heap.size w (w.alloc (.cells (#[I 1,Z,Z]) 101)):=nO;have bR:aK (w.alloc (.cells (#[I 1,Z,Z]) 101)) w.heap.size 101 3=true:=bG;have bV:aH (w.alloc (.cells (#[I 1,Z,Z]) 101)) w.heap.size=(#[I 1,Z,Z]:AV):=bG;generalize w.alloc (.cells (#[I 1,Z,Z]) 101)=W0 at*;have bC:=aI bR;go_wp2_with fail;refine(Em M C 0 h16 _ hr0 hC0).mono ?_;rintro e w1⟨rfl,hb⟩;obtain⟨hr1,hC1⟩:=cm hr0 hC0 hb;have cR:=((dJ hb).1 _ _ _ (bd bR)).trans bR;have cV:=((dJ hb).2.1 _ (bd bR)).trans bV;have cC:=aI cR;have b1:=Lib.hid (bw.trans (hb.mono bw.size));clear hb;go_wp2_with(go_at_call 383;refine(NK M C 0 1 h16 _ hr1 hC1).mono ?_;rintro e w2⟨rfl,hu,h1,h2⟩);exact bodyPost_ret (results_tmp rfl _ _ _) rfl ⟨rfl,(ax.of_below b1.out).trans hu,h1,h2⟩
def Fr(M c:Nat)(C:Array Value)(w:World)(e:Ending)(w':World):Prop:=∃sl,e= .returned (.tuple #[])∧ax M w w'∧aK w' M 134 60=true∧aH w' M=(C.setIfInBounds 35 sl).setIfInBounds 34 (I 1)∧aV w' w.heap.size 75 10 sl [#[F,U,J (aM c),I 80,Y,I (Pm.tOf c),Z,I (Pm.tOf c),Z,Z]]
theorem LI(M c:Nat)(C:Array Value)(h34:C[34]? =some (.int .i64 0))(h35:C[35]? =some (.slice none 0 0))(v':Value)(w:World)(hr:aK w M 134 60=true)(hC:aH w M=C)(hs':Sl w v' 10 [aJ c])(hT:v'.ownBlock≠some M):Calls Tryz.prog 194 #[.iface 140 (.agg #[H M 0]),I 1,V,v'] w (Fr M c C w):=by
 have hM:=bd hr;have HW:=Lib.hid (tL [] c V v' w (Sl.nil _ _) (by simpa using hs') ay);obtain⟨a',cap',rfl,q1',q2',q3'⟩:=hs';rcases q3' with⟨_,q3'⟩|⟨g',o',rfl,hg',q3'⟩;·simp at q3'
 have hE:=q3' 0 (aJ c) ay;simp only[Nat.zero_mul,Nat.add_zero,List.length_singleton,List.length_cons,List.length_nil,Nat.zero_add]at hE HW⊢;have hgT:g'≠M:=fun e=>hT ro;clear hT q3';go_enter Tryz.func194,Tryz.ntmps194;go_wp2_with(go_at_call 249;refine HW.out.mono ?_;rintro e w1⟨r,rfl,ho,hb⟩;obtain⟨gr,or,cr,rfl,hgr,hcr⟩:=one_cell ho.sl;have hk:=aw.mk hb;clear hb ho);have hcr':w1.cell? ⟨gr,or,none⟩=some (.int .i64 0):=by simpa using hcr
 clear hcr;obtain⟨hr1,hC1⟩:=cm hr hC hk.out;have hE1:=hE.block (hk.out.block g' hg');have hws:=hk.out.size;go_loopg[14]1(fun g s14 wr=>(g=1∧s14= .int .i64 0∧wr=w1)∨(g=0∧s14= .int .i64 1∧∃sl,Hid (ax M w wr∧aK wr M 134 60=true∧aH wr M=C.setIfInBounds 35 sl∧aV wr w.heap.size 75 10 sl [#[F,U,J (aM c),I 80,Y,I (Pm.tOf c),Z,I (Pm.tOf c),Z,Z]])));case atStart=>exact .inl ⟨rfl,rfl,rfl⟩
 case round=>
  rcases hrel with⟨rfl,rfl,rfl⟩|⟨rfl,rfl,sl,HH⟩;·
   have e1':=hE1.is;have e2':=hE1.of;have hgw:=hE1.lt;unfold aJ at e2';go_upto_region 3 with(fail);refine eU [] [0,1,2,3,4,5,6,7,8,9,10,11] [12] af af (fun _ _ d _ _ h=>bo) ?_;simp only[PL];refine ge ?_;repeat
    (
     first|go_big_quiet_skip|
      (
       go_big_quiet_want;apply bp;·
        intro W hS;obtain⟨x1,x2,x3,x4,x5,x6,x7,x8,x9,x10,y9⟩:=cZ hS.out;(try have zz:=zs w.heap.size W.heap.size);have e1W:aR W ⟨g',o',none⟩ 10=true:=by rw[x3 _ _ _ hgw];exact e1'
        have e2W:aO W ⟨g',o',none⟩ 10=(#[F,U,J (aM c),I 80,Y,I (Pm.tOf c),Z,I (Pm.tOf c),Z,Z]:AV):=by rw[x4 _ _ _ hgw];exact e2'
        go_simp;try first|with_reducible rfl|(go_at_call 246;refine(tq 1 0 _).mono ?_;rintro e w'⟨rfl,rfl⟩;exact⟨rfl,cP hS (nO)⟩)
       go_big_quiet_on;try simp only[PT]))
   refine wpQuiet_nil ?_;intro w2 hS2;have xxb:=cZ hS2.out;(try have zzb:=zs w.heap.size w2.heap.size);obtain⟨hr2,hC2⟩:=cm hr1 hC1 hS2.out;go_wp2_with(go_at_call 382;refine(wH M c C h35 _ hr2 hC2).mono ?_;rintro e w3⟨sl,rfl,hu,q1,q2,q3⟩;have HQ:=Lib.hid (And.intro hu (And.intro q1 (And.intro q2 q3)));clear hu q1 q2 q3);go_roundg 0;case measure=>omega
   case rel=>exact .inr ⟨rfl,rfl,sl,Lib.hid ⟨(ax.of_below (hk.out.trans (hS2.out.mono hws))).trans HQ.out.1,HQ.out.2.1,HQ.out.2.2.1,HQ.out.2.2.2.weaken (by have:=hS2.out.size;omega)⟩⟩
  ·obtain⟨hu,q1,q2,q3⟩:=HH.out;have HU:=Lib.hid hu;have HO:=Lib.hid q3;have hz:C.size=60:=lP hr hC;have h34':(C.setIfInBounds 35 sl)[34]? =some (.int .i64 0):=by rw[br az];exact h34
   clear hu q3 HH;go_upto_region 6 with(fail);refine eU [] [0,1,2,3,4,5,6,7,8] [9] af af (fun _ _ d _ _ h=>bo) ?_;simp only[PL];refine ge ?_;repeat
    (
     first|go_big_quiet_skip|
      (
       go_big_quiet_want;apply bp;·intro W hS;exact tw
       go_big_quiet_on;try simp only[PT]))
   refine wpQuiet_nil ?_;intro w4 hS4;have xxd:=cZ hS4.out;(try have zzd:=zs w.heap.size w4.heap.size);obtain⟨hr4,hC4⟩:=cm q1 q2 hS4.out;go_wp2_with(go_at_call 382;refine(wG M (C.setIfInBounds 35 sl) 1 _ h34' _ hr4 hC4).mono ?_;rintro e w5⟨rfl,hu,q5,q6⟩);exact bodyPost_end (results_none rfl _ _ _) rfl ⟨sl,rfl,HU.out.trans ((ax.of_below hS4.out).trans hu),q5,q6,(HO.out.below hS4.out).upto hu hM⟩
structure Ai(C:Array Value):Prop where
 h16:C[16]? =some (.int .i64 0)
 h24:C[24]? =some (.slice none 0 0)
 h32:C[32]? =some (.int .i32 0)
 h34:C[34]? =some (.int .i64 0)
 h35:C[35]? =some (.slice none 0 0)
def Fq(M c:Nat)(C:Array Value)(w:World)(e:Ending)(w':World):Prop:=∃sl,e= .returned (.tuple #[.agg (#[Z,F,U,U,Z,Z,Z,V]),Y])∧ax M w w'∧aK w' M 134 60=true∧aH w' M=((((C.setIfInBounds 32 (.int .i32 1)).setIfInBounds 16 (I 1)).setIfInBounds 35 sl).setIfInBounds 34 (I 1)).setIfInBounds 32 (.int .i32 0)∧aV w' w.heap.size 75 10 sl [#[F,U,J (aM c),I 80,Y,I (Pm.tOf c),Z,I (Pm.tOf c),Z,Z]]
theorem K9(M c:Nat)(hp:prt 4 c=1)(C:Array Value)(hF:Ai C)(w:World)(hr:aK w M 134 60=true)(hC:aH w M=C):Calls Tryz.prog 141 #[.agg (jI 2 4 c),.iface 140 (.agg #[H M 0])] w (Fq M c C w):=by
 have ed:jI 2 4 c=(#[I 2,I 4,I 4,I 64,I 64,J 1,I 1,I 1,I 1,I 64,I 100,I 100,I 1000,I 2,I 64,I 4,I 1,F,U,J (aM c),I 80,F,U,U,Z,I (Pm.tOf c),Z,F]:AV):=rfl;have hM:=bd hr;have hz:=lP hr hC;have hpa:=Lib.hid (oF 2 4 c az az);have hwa:=Lib.hid (tI 2 4 c);rw[hp]at hpa;rw[ed]at hpa hwa⊢;have hbx:∀W,ax M ((w.alloc (.cells (#[I 2,I 4,I 4,I 64,I 64,J 1,I 1,I 1,I 1,I 64,I 100,I 100,I 1000,I 2,I 64,I 4,I 1,F,U,J (aM c),I 80,F,U,U,Z,I (Pm.tOf c),Z,F]) 203)).alloc (.cells (#[Z,F,U,U,Z,Z,Z,V]) 64)) W→aK W w.heap.size 203 28=true∧aH W w.heap.size=(#[I 2,I 4,I 4,I 64,I 64,J 1,I 1,I 1,I 1,I 64,I 100,I 100,I 1000,I 2,I 64,I 4,I 1,F,U,J (aM c),I 80,F,U,U,Z,I (Pm.tOf c),Z,F]:AV)∧aK W (w.heap.size+1) 64 8=true∧aH W (w.heap.size+1)=(#[Z,F,U,U,Z,Z,Z,V]:AV)∧bc W w.heap.size=true∧bc W (w.heap.size+1)=true∧w.heap.size+1<W.heap.size:=fun W hW=>by obtain⟨x1,x2,x3,x4,x5,x6,x7,x8,x9,x10⟩:=g7 hW;have s0:w.heap.size<((w.alloc (.cells (#[I 2,I 4,I 4,I 64,I 64,J 1,I 1,I 1,I 1,I 64,I 100,I 100,I 1000,I 2,I 64,I 4,I 1,F,U,J (aM c),I 80,F,U,U,Z,I (Pm.tOf c),Z,F]) 203)).alloc (.cells (#[Z,F,U,U,Z,Z,Z,V]) 64)).heap.size:=aF;have s1:w.heap.size+1<((w.alloc (.cells (#[I 2,I 4,I 4,I 64,I 64,J 1,I 1,I 1,I 1,I 64,I 100,I 100,I 1000,I 2,I 64,I 4,I 1,F,U,J (aM c),I 80,F,U,U,Z,I (Pm.tOf c),Z,F]) 203)).alloc (.cells (#[Z,F,U,U,Z,Z,Z,V]) 64)).heap.size:=ay;have hn0:¬(w.heap.size=M):=aa;have hn1:¬(w.heap.size+1=M):=aa;refine⟨by rw[x1 _ _ _ s0 hn0];simp[go_sem],by rw[x2 _ s0 hn0];simp[go_sem],by rw[x1 _ _ _ s1 hn1];simp[go_sem],by rw[x2 _ s1 hn1];simp[go_sem],by rw[x8 _ s0 hn0];simp[go_sem],by rw[x8 _ s1 hn1];simp[go_sem],x10 _ s1⟩
 have hU0:Below w.heap.size w ((w.alloc (.cells (#[I 2,I 4,I 4,I 64,I 64,J 1,I 1,I 1,I 1,I 64,I 100,I 100,I 1000,I 2,I 64,I 4,I 1,F,U,J (aM c),I 80,F,U,U,Z,I (Pm.tOf c),Z,F]) 203)).alloc (.cells (#[Z,F,U,U,Z,Z,Z,V]) 64)):=nO;obtain⟨hr0,hC0⟩:=cm hr hC hU0;generalize hW0:((w.alloc (.cells (#[I 2,I 4,I 4,I 64,I 64,J 1,I 1,I 1,I 1,I 64,I 100,I 100,I 1000,I 2,I 64,I 4,I 1,F,U,J (aM c),I 80,F,U,U,Z,I (Pm.tOf c),Z,F]) 203)).alloc (.cells (#[Z,F,U,U,Z,Z,Z,V]) 64))=W0 at hbx hU0 hr0 hC0;go_enter Tryz.func141,Tryz.ntmps141;obtain⟨b1,b2,b3,b4,b5,b6,b7⟩:=hbx _ (ax.refl _ _);go_wp2_with fail;refine(hpa.out _).mono ?_;rintro e w1⟨rfl,hb⟩;obtain⟨hr1,hC1⟩:=cm hr0 hC0 hb;have U1:=Lib.hid (ax.of_below (T:=M) hb);clear hb;obtain⟨b1,b2,b3,b4,b5,b6,b7⟩:=hbx _ U1.out;go_wp2_with fail;refine(NJ M C hF.h32 _ hr1 hC1).mono ?_;rintro e w2⟨rfl,hu,hr2,hC2⟩;have U2:=Lib.hid (U1.out.trans hu);clear hu;obtain⟨b1,b2,b3,b4,b5,b6,b7⟩:=hbx _ U2.out;have g34:(C.setIfInBounds 32 (.int .i32 1))[34]? =some (.int .i64 0):=by rw[br az];exact hF.h34
 have g35:(C.setIfInBounds 32 (.int .i32 1))[35]? =some (.slice none 0 0):=by rw[br az];exact hF.h35
 have g16:(C.setIfInBounds 32 (.int .i32 1))[16]? =some (.int .i64 0):=by rw[br az];exact hF.h16
 go_wp2_with fail;refine(Om M _ g34 _ hr2 hC2).mono ?_;rintro e w3⟨rfl,hb⟩;obtain⟨hr3,hC3⟩:=cm hr2 hC2 hb;have U3:=Lib.hid (U2.out.trans (ax.of_below (T:=M) hb));clear hb;obtain⟨b1,b2,b3,b4,b5,b6,b7⟩:=hbx _ U3.out;go_wp2_with fail;refine(wz [] c _ (Pm.Clear.nil c) _ (Sl.nil _ _) ay).mono ?_;rintro e w4⟨rfl,hb⟩;obtain⟨hr4,hC4⟩:=cm hr3 hC3 hb;have U4:=Lib.hid (U3.out.trans (ax.of_below (T:=M) hb));clear hb;obtain⟨b1,b2,b3,b4,b5,b6,b7⟩:=hbx _ U4.out;go_wp2_with fail;refine(EV M _ g16 _ hr4 hC4).mono ?_;rintro e w5⟨rfl,hu,hr5,hC5⟩;have U5:=Lib.hid (U4.out.trans hu);clear hu;obtain⟨b1,b2,b3,b4,b5,b6,b7⟩:=hbx _ U5.out;have k34:((C.setIfInBounds 32 (.int .i32 1)).setIfInBounds 16 (I 1))[34]? =some (.int .i64 0):=by rw[br az];exact g34
 have k35:((C.setIfInBounds 32 (.int .i32 1)).setIfInBounds 16 (I 1))[35]? =some (.slice none 0 0):=by rw[br az];exact g35
 clear g34 g35 g16;go_wp2_with fail;refine(hwa.out [] _ _ (Sl.nil _ _) ay).mono ?_;rintro e w6⟨v6,rfl,ho,hb⟩;obtain⟨hr6,hC6⟩:=cm hr5 hC5 hb;have HO6:=Lib.hid ho;have U6:=Lib.hid (U5.out.trans (ax.of_below (T:=M) hb));have hM5:=bd hr5;clear hb ho;obtain⟨b1,b2,b3,b4,b5,b6,b7⟩:=hbx _ U6.out;go_wp2_with fail;refine(LI M c _ k34 k35 v6 _ hr6 hC6 (by simpa using HO6.out.sl) (fun e=>by have:=(HO6.out.base e).1;omega)).mono ?_;rintro e w7⟨sl,rfl,hu,hr7,hC7,ho7⟩;have U7:=Lib.hid (U6.out.trans hu);have HO7:=Lib.hid ho7;have hs6:w.heap.size+1<w6.heap.size:=b7;clear hu ho7;obtain⟨b1,b2,b3,b4,b5,b6,b7⟩:=hbx _ U7.out;have m32:((((C.setIfInBounds 32 (.int .i32 1)).setIfInBounds 16 (I 1)).setIfInBounds 35 sl).setIfInBounds 34 (I 1))[32]? =some (.int .i32 1):=by rw[br az,br az,br az,wF aa]
 go_wp2_with fail;refine(NI M false _ m32 _ hr7 hC7).mono ?_;rintro e w8⟨rfl,hu,hr8,hC8⟩;have U8:=Lib.hid (U7.out.trans hu);have HO8:=Lib.hid (HO7.out.upto hu aa);clear hu;obtain⟨b1,b2,b3,b4,b5,b6,b7⟩:=hbx _ U8.out;go_wp2;exact bodyPost_ret (v:=.tuple #[.agg _,_]) (ci (t:=64) Tryz.results141 _ _ _ rfl (fd _ b3 rfl) (fa _ b6) fi ic) rfl ⟨sl,rfl,fD ((ax.of_below hU0).trans U8.out) aa _,(gf _ _ _ _ _ _ aa).trans hr8,(gO _ _ _ _ aa).trans hC8,(HO8.out.upto (T:=w.heap.size+1) (aP (ax.refl _ _) _) aa).weaken aa⟩
end
end Go.Proofs.YtnncjbkepakgpaaGreat
