/- WHERE A CALL THAT ACCEPTS IS, IN PLAIN LEAN: its positions, what it asks there, and where it is behind the answer. -/
import Derived.Test.YtnncjbkepakgpaaGreatA04
set_option linter.unusedVariables false
set_option linter.unusedSimpArgs false
set_option maxRecDepth 100000
namespace Go.Proofs.YtnncjbkepakgpaaGreat.Pm
theorem bnd_ask_cons{β:Type}(o:Op)(f:Val→Tp β)(v:Val)(r:List Val):bnd (ask o) f (v::r)=f v r:=rfl
theorem bnd_ret{α β:Type}(a:α)(f:α→Tp β):bnd (ret a) f=f a:=rfl
theorem bnd_assoc{α β γ:Type}(m:Tp α)(f:α→Tp β)(g:β→Tp γ):bnd (bnd m f) g=bnd m fun a=>bnd (f a) g:=by funext l;unfold bnd;cases m l<;>rfl
def Clear(me:Nat)(l:List Nat):Prop:=∀x∈l,kOf x≠kOf me
theorem has_clear{me:Nat}{l:List Nat}(h:Clear me l):has me l=false:=by unfold has;rw[List.any_eq_false];intro x hx;simpa using h x hx
theorem Clear.nil(me:Nat):Clear me []:=fun _ h=>ly
theorem Clear.snoc{me:Nat}{l:List Nat}(h:Clear me l){c:Nat}(hc:kOf c≠kOf me):Clear me (l++[c]):=fun x hx=>by
 rcases List.mem_append.1 hx with h1|h1;·exact h x h1
 ·rw[List.mem_singleton.1 h1];exact hc
inductive Pos
 |share|bans|lock|size|slot(m:Nat)(acc:List Nat)|inn(l:List Nat)|swap(l:List Nat)(n:Int)|wslot(l:List Nat)|wsize(l:List Nat)
 |free(ok:Bool)|drop(ok:Bool)|lockAll(j:Nat)|rsize(j:Nat)(all:List (List Nat))|rslot(j m:Nat)(acc:List Nat)(all:List (List Nat))|sinn(all:List (List Nat))|freeAll(i:Nat)
def dropK(ok:Bool):Tp Bool:=bnd (ask .drop) fun _=>ret ok
def innK(S most:Nat)(all:List (List Nat)):Bool→Tp Unit
 |true=>no
 |false=>if 19<total all then no else freeTo S S
def readK(S n me most:Nat)(all:List (List Nat)):Tp Unit:=if has me (all.getD n [])then no else bnd (reserve most) (innK S most all)
def endK(c:Cf)(me:Nat):Bool→Tp Bool
 |true=>dropK true
 |false=>bnd (slow c.S (c.prt me) me c.most) fun _=>dropK false
def takeK(n me:Nat)(l:List Nat):Bool→Tp Bool
 |true=>bnd (ask (.wslot n l.length me)) fun _=>bnd (ask (.wsize n (l.length+1))) fun _=>bnd (ask (.free (2+n) false)) fun _=>ret true
 |false=>bnd (ask (.free (2+n) false)) fun _=>ret false
def quickK(n me most:Nat)(l:List Nat):Tp Bool:=if has me l then no else bnd (reserve most) (takeK n me l)
theorem quick_eq(n me most:Nat):quick n me most=bnd (ask (.lock (2+n))) fun _=>bnd (read n) (quickK n me most):=by unfold quick quickK takeK;congr 1
theorem slow_eq(S n me most:Nat):slow S n me most=bnd (lockFrom S 0) fun _=>bnd (readRest S 0 []) (readK S n me most):=by unfold slow readK innK;congr 1
theorem accept_eq(c:Cf)(me:Nat):accept c me=bnd (ask .share) fun _=>bnd (ask .bans) fun _=>bnd (quick (c.prt me) me c.most) (endK c me):=by unfold accept endK dropK;congr 1
def code(c:Cf)(me:Nat):Pos→Tp Bool
 | .share=>accept c me
 | .bans=>bnd (ask .bans) fun _=>bnd (quick (c.prt me) me c.most) (endK c me)
 | .lock=>bnd (quick (c.prt me) me c.most) (endK c me)
 | .size=>bnd (bnd (read (c.prt me)) (quickK (c.prt me) me c.most)) (endK c me)
 | .slot m acc=>bnd (bnd (readFrom (c.prt me) (m+1) acc) (quickK (c.prt me) me c.most)) (endK c me)
 | .inn l=>bnd (bnd (reserve c.most) (takeK (c.prt me) me l)) (endK c me)
 | .swap l n=>fun r=>match r with
  |[]=>.pause (.swap n)
  |s::r'=>if s= .num 1 then bnd (takeK (c.prt me) me l true) (endK c me) r' else bnd (bnd (reserve c.most) (takeK (c.prt me) me l)) (endK c me) r'
 | .wslot l=>bnd (takeK (c.prt me) me l true) (endK c me)
 | .wsize l=>bnd (ask (.wsize (c.prt me) (l.length+1))) fun _=>bnd (ask (.free (2+c.prt me) false)) fun _=>endK c me true
 | .free ok=>bnd (ask (.free (2+c.prt me) false)) fun _=>endK c me ok
 | .drop ok=>dropK ok
 | .lockAll j=>bnd (bnd (lockFrom (c.S-j) j) fun _=>bnd (readRest c.S 0 []) (readK c.S (c.prt me) me c.most)) fun _=>dropK false
 | .rsize j all=>bnd (bnd (readRest (c.S-j) j all) (readK c.S (c.prt me) me c.most)) fun _=>dropK false
 | .rslot j m acc all=>bnd (bnd (bnd (readFrom j (m+1) acc) fun l=>readRest (c.S-j-1) (j+1) (all++[l])) (readK c.S (c.prt me) me c.most)) fun _=>dropK false
 | .sinn all=>bnd (bnd (reserve c.most) (innK c.S c.most all)) fun _=>dropK false
 | .freeAll i=>bnd (freeTo c.S (i+1)) fun _=>dropK false
def fit(c:Cf):Pos→Prop
 | .lockAll j=>j<c.S
 | .rsize j _=>j<c.S
 | .rslot j _ _ _=>j<c.S
 | .freeAll i=>i<c.S
 |_=>True
def after(c:Cf)(j:Nat)(all:List (List Nat)):Pos:=if j<c.S then .rsize j all else .sinn all
def nxt(c:Cf)(me:Nat):Pos→Val→Pos
 | .share,_=>.bans
 | .bans,_=>.lock
 | .lock,_=>.size
 | .size,.num n=>if n.toNat=0 then .inn []else .slot (n.toNat-1) []
 | .slot 0 acc,.who x=>.inn (acc++[x])
 | .slot (m+1) acc,.who x=>.slot m (acc++[x])
 | .inn l,.num n=>if(c.most:Int)≤n then .free false else .swap l n
 | .swap l _,v=>if v= .num 1 then .wslot l else .inn l
 | .wslot l,_=>.wsize l
 | .wsize _,_=>.free true
 | .free true,_=>.drop true
 | .free false,_=>.lockAll 0
 | .lockAll j,_=>if j+1<c.S then .lockAll (j+1)else .rsize 0 []
 | .rsize j all,.num n=>if n.toNat=0 then after c (j+1) (all++[[]])else .rslot j (n.toNat-1) [] all
 | .rslot j 0 acc all,.who x=>after c (j+1) (all++[acc++[x]])
 | .rslot j (m+1) acc all,.who x=>.rslot j m (acc++[x]) all
 | .sinn _,_=>.freeAll (c.S-1)
 | .freeAll 0,_=>.drop false
 | .freeAll (i+1),_=>.freeAll i
 |p,_=>p
def okV(c:Cf)(me:Nat):Pos→Val→Prop
 | .size,v=>∃n:Int,v= .num n∧0≤n∧n≤19
 | .slot _ acc,v=>Clear me acc∧∃x,v= .who x∧kOf x≠kOf me
 | .inn l,v=>∃n,v= .num n
 | .rsize j all,v=>(∀l∈all,Clear me l)∧∃n:Int,v= .num n∧0≤n∧n≤19
 | .rslot j m acc all,v=>(∀l∈all,Clear me l)∧Clear me acc∧∃x,v= .who x∧kOf x≠kOf me
 | .sinn all,v=>total all≤19∧∃n:Int,v= .num n∧(c.most:Int)≤n
 | .drop _,_=>False
 |_,_=>True
theorem has_all{me n:Nat}{all:List (List Nat)}(h:∀l∈all,Clear me l):has me (all.getD n [])=false:=by
 apply has_clear;rw[List.getD_eq_getElem?_getD];cases e:all[n]? with
  |none=>exact Clear.nil _
  |some l=>exact h l (List.mem_of_getElem? e)
theorem lockFrom_code(c:Cf)(j:Nat)(hj:j<c.S)(me:Nat)(v:Val)(r:List Val):code c me (.lockAll j) (v::r)=code c me (if j+1<c.S then .lockAll (j+1)else .rsize 0 []) r:=by
 obtain⟨k,hk⟩:∃k,c.S-j=k+1:=⟨c.S-j-1,aa⟩;simp only[code,hk,lockFrom];rw[bnd_assoc,bnd_assoc];simp only[bnd_assoc,bnd_ask_cons];split;·rename_i h1;simp only[show c.S-(j+1)=k by omega,bnd_assoc]
 ·have:k=0:=aa;subst this;simp only[lockFrom,bnd_ret,Nat.sub_zero]
theorem after_code(c:Cf)(me j:Nat)(all:List (List Nat))(hj:j≤c.S)(h:∀l∈all,Clear me l)(r:List Val):bnd (bnd (readRest (c.S-j) j all) (readK c.S (c.prt me) me c.most)) (fun _=>dropK false) r=code c me (after c j all) r:=by
 unfold after;split;·rfl
 ·have:c.S-j=0:=aa;simp only[this,code,readRest,bnd_ret,readK,has_all h,Bool.false_eq_true,if_false]
theorem bnd_reserve{β:Type}(most:Int)(k:Bool→Tp β)(n:Int)(r:List Val):bnd (reserve most) k (.num n::r)=if most≤n then k false r else match r with
 |[]=>.pause (.swap n)
 |s::r'=>if s= .num 1 then k true r' else bnd (reserve most) k r':=by
 unfold bnd;rw[reserve.eq_def];by_cases h:most≤n;·simp only[h,if_true]
 ·simp only[h,if_false];cases r with
   |nil=>rfl
   |cons s r'=>
    by_cases h1:s= .num 1;·simp only[h1,if_true]
    ·simp only[h1,if_false]
theorem go(c:Cf)(me:Nat)(p:Pos)(v:Val)(r:List Val)(h:fit c p)(hS:0<c.S)(ho:okV c me p v):code c me p (v::r)=code c me (nxt c me p v) r:=by
 cases p with
  |share=>simp only[code,accept_eq,bnd_ask_cons,nxt]
  |bans=>simp only[code,bnd_ask_cons,nxt]
  |lock=>simp only[code,quick_eq,bnd_assoc,bnd_ask_cons,nxt]
  |size=>
   obtain⟨n,rfl,h0,h1⟩:=ho;simp only[code,read,bnd_assoc,bnd_ask_cons,h0,h1,and_self,if_true,nxt];split;·rename_i h2;rw[h2];simp only[readFrom,bnd_ret,quickK,has_clear (Clear.nil me),Bool.false_eq_true,if_false,bnd_assoc,code]
   ·rename_i h2;obtain⟨k,hk⟩:∃k,n.toNat=k+1:=⟨n.toNat-1,aa⟩;simp only[code,hk,Nat.add_sub_cancel,bnd_assoc]
  |slot m acc=>
   obtain⟨h1,x,rfl,h2⟩:=ho;cases m with
    |zero=>simp only[code,readFrom,bnd_assoc,bnd_ask_cons,bnd_ret,quickK,has_clear (h1.snoc h2),Bool.false_eq_true,if_false,nxt]
    |succ m=>simp only[code,nxt];rw[readFrom];simp only[bnd_assoc,bnd_ask_cons]
  |inn l=>
   obtain⟨n,rfl⟩:=ho;simp only[code,bnd_assoc,bnd_reserve,nxt];split;·simp only[takeK,bnd_assoc,bnd_ret,code]
   ·simp only[code]
  |swap l n=>simp only[code,nxt];split<;>rfl
  |wslot l=>simp only[code,takeK,bnd_assoc,bnd_ask_cons,bnd_ret,nxt]
  |wsize l=>simp only[code,bnd_ask_cons,nxt]
  |free ok=>
   cases ok with
    |true=>simp only[code,bnd_ask_cons,nxt,endK]
    |false=>simp only[code,bnd_ask_cons,nxt,endK,slow_eq,Nat.sub_zero]
  |drop ok=>exact absurd ho (by simp[okV])
  |lockAll j=>simp only[nxt];exact lockFrom_code c j h me v r
  |rsize j all=>
   obtain⟨h1,n,rfl,h2,h3⟩:=ho;simp only[fit]at h;obtain⟨k,hk⟩:∃k,c.S-j=k+1:=⟨c.S-j-1,aa⟩;simp only[nxt];split;·
    rename_i h4;rw[←after_code c me (j+1) (all++[[]]) aa (fun l hl=>by
     rcases List.mem_append.1 hl with h5|h5;·exact h1 l h5
     ·rw[List.mem_singleton.1 h5];exact Clear.nil me) r,show c.S-(j+1)=k by omega];simp only[code,hk];rw[readRest];simp only[read,bnd_assoc,bnd_ask_cons,h2,h3,and_self,if_true,h4,readFrom,bnd_ret]
   ·rename_i h4;obtain⟨i,hi⟩:∃i,n.toNat=i+1:=⟨n.toNat-1,aa⟩;simp only[code,hk,hi,Nat.add_sub_cancel];rw[readRest];simp only[read,bnd_assoc,bnd_ask_cons,h2,h3,and_self,if_true,hi]
  |rslot j m acc all=>
   obtain⟨h1,h2,x,rfl,h3⟩:=ho;simp only[fit]at h;cases m with
    |zero=>
     simp only[nxt];rw[←after_code c me (j+1) (all++[acc++[x]]) aa (fun l hl=>by
      rcases List.mem_append.1 hl with h5|h5;·exact h1 l h5
      ·rw[List.mem_singleton.1 h5];exact h2.snoc h3) r,show c.S-(j+1)=c.S-j-1 by omega];simp only[code,readFrom,bnd_assoc,bnd_ask_cons,bnd_ret]
    |succ m=>simp only[code,nxt];rw[readFrom];simp only[bnd_assoc,bnd_ask_cons]
  |sinn all=>obtain⟨h1,n,rfl,h2⟩:=ho;simp only[code,bnd_assoc,bnd_reserve,nxt,h2,if_true,innK,Nat.not_lt.2 h1,if_false];rw[show c.S-1+1=c.S by omega]
  |freeAll i=>
   cases i with
    |zero=>simp only[code,nxt];rw[freeTo];simp only[bnd_assoc,bnd_ask_cons];rfl
    |succ i=>simp only[code,nxt];rw[freeTo];simp only[bnd_assoc,bnd_ask_cons]
theorem last(c:Cf)(me:Nat)(ok:Bool)(v:Val)(r:List Val):code c me (.drop ok) (v::r)= .done ok r:=rfl
end Go.Proofs.YtnncjbkepakgpaaGreat.Pm
