/- WHAT THE PROGRAM DOES, IN PLAIN LEAN: calls that accept, as functions of the values that they were told; locks, counters, parts; tasks; the world's steps. -/
import Derived.Test.YtnncjbkepakgpaaGreatA01
set_option linter.unusedVariables false
set_option linter.unusedSimpArgs false
set_option maxRecDepth 100000
namespace Go.Proofs.YtnncjbkepakgpaaGreat.Pm
def kOf(c:Nat):Nat:=c%16
def tOf(c:Nat):Nat:=if c<16 then c else 0
inductive Val|num(n:Int)|who(c:Nat)deriving DecidableEq
inductive Op
 |lock(k:Nat)|share|free(k:Nat)(m:Bool)|drop
 |bans|inn|size(p:Nat)|slot(p i:Nat)|wslot(p i c:Nat)|wsize(p n:Nat)|swap(n:Int)deriving DecidableEq
inductive Res(α:Type)|done(a:α)(r:List Val)|pause(o:Op)|bad
abbrev Tp(α:Type):=List Val→Res α
def ret{α:Type}(a:α):Tp α:=fun l=>.done a l
def no{α:Type}:Tp α:=fun _=>.bad
def ask(o:Op):Tp Val
 |[]=>.pause o
 |v::r=>.done v r
def bnd{α β:Type}(m:Tp α)(f:α→Tp β):Tp β:=fun l=>match m l with
 | .done a r=>f a r
 | .pause o=>.pause o
 | .bad=>.bad
def readFrom(p:Nat):Nat→List Nat→Tp (List Nat)
 |0,acc=>ret acc
 |m+1,acc=>bnd (ask (.slot p acc.length)) fun
  | .who c=>readFrom p m (acc++[c])
  | .num _=>no
def read(p:Nat):Tp (List Nat):=bnd (ask (.size p)) fun
 | .num n=>if 0≤n∧n≤19 then readFrom p n.toNat []else no
 | .who _=>no
def reserve(most:Int):Tp Bool
 |[]=>.pause .inn
 | .who _::_=>.bad
 | .num n::r=>if most≤n then .done false r else match r with
  |[]=>.pause (.swap n)
  |s::r'=>if s= .num 1 then .done true r' else reserve most r'
def has(me:Nat)(l:List Nat):Bool:=l.any fun c=>kOf c==kOf me
def lockFrom:Nat→Nat→Tp Unit
 |0,_=>ret ()
 |m+1,j=>bnd (ask (.lock (2+j))) fun _=>lockFrom m (j+1)
def freeTo(S:Nat):Nat→Tp Unit
 |0=>ret ()
 |i+1=>bnd (ask (.free (2+i) (i+1==S))) fun _=>freeTo S i
def readRest:Nat→Nat→List (List Nat)→Tp (List (List Nat))
 |0,_,acc=>ret acc
 |m+1,j,acc=>bnd (read j) fun l=>readRest m (j+1) (acc++[l])
structure Cf where
 most:Nat
 S:Nat
 prt:Nat→Nat
def quick(n me:Nat)(most:Nat):Tp Bool:=bnd (ask (.lock (2+n))) fun _=>bnd (read n) fun l=>if has me l then no else bnd (reserve most) fun
 |true=>bnd (ask (.wslot n l.length me)) fun _=>bnd (ask (.wsize n (l.length+1))) fun _=>bnd (ask (.free (2+n) false)) fun _=>ret true
 |false=>bnd (ask (.free (2+n) false)) fun _=>ret false
def total(all:List (List Nat)):Nat:=(all.map List.length).sum
def slow(S n me:Nat)(most:Nat):Tp Unit:=bnd (lockFrom S 0) fun _=>bnd (readRest S 0 []) fun all=>if has me (all.getD n [])then no else bnd (reserve most) fun
 |true=>no
 |false=>if 19<total all then no else freeTo S S
def accept(c:Cf)(me:Nat):Tp Bool:=bnd (ask .share) fun _=>bnd (ask .bans) fun _=>bnd (quick (c.prt me) me c.most) fun
 |true=>bnd (ask .drop) fun _=>ret true
 |false=>bnd (slow c.S (c.prt me) me c.most) fun _=>bnd (ask .drop) fun _=>ret false
structure Task where
 calls:List Nat
 nth:Nat
 got:List Val
 replies:List Bool
structure Wd where
 inn:Int
 parts:List (Nat×List Nat)
 locks:List Nat
 sh:Nat
 tasks:List Task
def over(t:Task):Bool:=decide (t.calls.length≤t.nth)
def me(t:Task):Nat:=t.calls.getD t.nth 0
def turn(c:Cf)(t:Task):Res Bool:=accept c (me t) t.got
def may(w:Wd):Op→Bool
 | .lock k=>w.locks.getD k 0==0
 | .share=>w.locks.getD 0 0==0
 |_=>true
def next(c:Cf)(w:Wd)(t:Task):Option Op:=if over t then none else match turn c t with
 | .pause o=>if may w o then some o else none
 |_=>none
def partOf(w:Wd)(p:Nat):Nat×List Nat:=w.parts.getD p (0,[])
def slotAt(l:List Nat)(i:Nat):Val:=match l[i]? with
 |some c=>.who c
 |none=>.num 0
def act(w:Wd)(who:Nat):Op→Wd×Val
 | .lock k=>({w with locks:=w.locks.set k (who+1)},.num 0)
 | .share=>({w with sh:=w.sh+1},.num 0)
 | .free k _=>(if w.locks.getD k 0=who+1 then{w with locks:=w.locks.set k 0}else w,.num 0)
 | .drop=>(w,.num 0)
 | .bans=>(w,.num 0)
 | .inn=>(w,.num w.inn)
 | .size p=>(w,.num (partOf w p).1)
 | .slot p i=>(w,slotAt (partOf w p).2 i)
 | .wslot p i c=>(if(partOf w p).2.length<i then w else{w with parts:=w.parts.set p ((partOf w p).1,(partOf w p).2.take i++c::(partOf w p).2.drop (i+1))},.num 0)
 | .wsize p n=>({w with parts:=w.parts.set p (n,(partOf w p).2)},.num 0)
 | .swap n=>if w.inn=n then({w with inn:=n+1},.num 1)else(w,.num 0)
def take(c:Cf)(t:Task)(v:Val):Task:=match turn c {t with got:=t.got++[v]}with
 | .done b _=>{t with replies:=t.replies++[b],nth:=t.nth+1,got:=[]}
 |_=>{t with got:=t.got++[v]}
def stepWith(c:Cf)(w:Wd)(who:Nat)(t:Task)(o:Op):Wd:={(act w who o).1 with tasks:=w.tasks.set who (take c t (act w who o).2)}
def step(c:Cf)(w:Wd)(who:Nat):Wd:=match w.tasks[who]? with
 |none=>w
 |some t=>match next c w t with
  |none=>w
  |some o=>stepWith c w who t o
end Go.Proofs.YtnncjbkepakgpaaGreat.Pm
