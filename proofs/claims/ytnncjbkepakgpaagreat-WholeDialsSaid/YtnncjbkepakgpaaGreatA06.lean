/- COPIES OF SLICES. THE WORLD IN MEMORY: tasks, parts, locks; an element of an own row is laid anew. THE GENERAL WORLD IN MEMORY: values, operations, tasks, parts, locks; the blocks that each may reach. COPIES OF BANS, ENTRIES, ITEMS. -/
import Derived.Test.YtnncjbkepakgpaaGreatA05
import Derived.Lib.SliceRun
namespace Go.Proofs.YtnncjbkepakgpaaGreat
open Go.RowKit Qv
set_option linter.unusedVariables false
set_option linter.unusedSimpArgs false
set_option maxRecDepth 100000
set_option maxHeartbeats 2000000
theorem Cm:(Tryz.prog.info? 41).map (fun i=>(i.zero,i.size,i.bytes))=some (some (.agg #[Z,F,U,U,Z,F,U,U,Z,Z,Z,F]),12,96):=af
theorem jf:(Tryz.prog.info? 75).map (fun i=>(i.zero,i.size,i.bytes))=some (some (.agg #[F,U,U,Z,F,Z,Z,Z,Z,Z]),10,80):=af
theorem Gt:(Tryz.prog.info? 103).map (fun i=>(i.zero,i.size,i.bytes))=some (some (.agg #[Z,F,U,U,Z,F,Z,Z,Z,Z,Z,V,V]),13,136):=af
theorem Kb:(Tryz.prog.info? 64).map (fun i=>(i.zero,i.size,i.bytes))=some (some (.agg #[Z,F,U,U,Z,Z,Z,V]),8,80):=af
theorem Cn:(Tryz.prog.info? 62).map (fun i=>(i.zero,i.size,i.bytes))=some (some (.agg #[V,Z,V,V,F]),5,88):=af
theorem Gy:(Tryz.prog.info? 186).map (fun i=>(i.zero,i.size,i.bytes))=some (some (.agg #[Z,V]),2,32):=af
theorem Gv:(Tryz.prog.info? 129).map (fun i=>(i.zero,i.size,i.bytes))=some (some (.agg #[Z,V]),2,32):=af
theorem AT:(Tryz.prog.info? 3).map (fun i=>(i.zero,i.size,i.bytes))=some (some (.int .i64 0),1,8):=af
theorem Gu:(Tryz.prog.info? 107).map (fun i=>(i.zero,i.size,i.bytes))=some (some (.agg #[.int .i64 0,.int .i64 0,.int .i64 0,.int .i64 0,.int .i64 0,.int .i64 0,.int .i64 0,.int .i64 0,.int .i64 0,.int .i64 0,.bool false,.int .u64 0,.int .u64 0,.int .i64 0,.bool false,.int .i64 0,.int .i64 0,.int .i64 0,.int .i64 0,.int .i64 0,.slice none 0 0,.slice none 0 0,.bool false,.int .i64 0,.bool false,.int .u64 0,.int .u64 0,.int .i64 0,.bool false,.int .i64 0,.int .i64 0,.int .i64 0,.int .i64 0,.int .i64 0,.slice none 0 0,.slice none 0 0,.bool false]),37,360):=af
theorem O6{ops:Array Oper}{rest:List Oper}{o:Oper}{a:Act}{w:World}{Q:Exit→Act→World→Prop}(hgd:o.guard=none)(s x:Operand)(ho:o.op= .call {callee:=.builtin .append,args:=#[s,x],argTypes:=#[32,32]})(B:Nat)(v:Value)(L M:List (Array Value))(hs:a.eval s=v)(hown:aV w B 41 12 v L)(ad:Addr)(m k:Nat)(hx:a.eval x= .slice (some ad) m k)(hM:Sl w (E (some ad) m k) 12 M)(hlen:L.length+M.length≤200000)(hbase:B≤w.heap.size)(h:∀v' w',aV w' B 41 12 v' (L++M)→Below B w w'→(v'= .slice none 0 0↔v= .slice none 0 0∧M=[])→wpList Tryz.prog ops Q rest (a.put o.dst v') w'):wpList Tryz.prog ops Q (o::rest) a w:=by obtain⟨i0,hi,hz0,hz1,hz2⟩:=info_parts Cm;exact eK hgd s x 32 ho B 41 i0 (.agg #[Z,F,U,U,Z,F,U,U,Z,Z,Z,F]) 12 96 Tryz.underlying32 hi hz0 hz1 hz2 rfl az v L M hs hown ad m k hx hM aa aa hbase h
theorem pD{ops:Array Oper}{rest:List Oper}{o:Oper}{a:Act}{w:World}{Q:Exit→Act→World→Prop}(hgd:o.guard=none)(s x:Operand)(ho:o.op= .call {callee:=.builtin .append,args:=#[s,x],argTypes:=#[55,55]})(B:Nat)(v:Value)(L M:List (Array Value))(hs:a.eval s=v)(hown:aV w B 75 10 v L)(ad:Addr)(m k:Nat)(hx:a.eval x= .slice (some ad) m k)(hM:Sl w (E (some ad) m k) 10 M)(hlen:L.length+M.length≤200000)(hbase:B≤w.heap.size)(h:∀v' w',aV w' B 75 10 v' (L++M)→Below B w w'→(v'= .slice none 0 0↔v= .slice none 0 0∧M=[])→wpList Tryz.prog ops Q rest (a.put o.dst v') w'):wpList Tryz.prog ops Q (o::rest) a w:=by obtain⟨i0,hi,hz0,hz1,hz2⟩:=info_parts jf;exact eK hgd s x 55 ho B 75 i0 (.agg #[F,U,U,Z,F,Z,Z,Z,Z,Z]) 10 80 Tryz.underlying55 hi hz0 hz1 hz2 rfl az v L M hs hown ad m k hx hM aa aa hbase h
theorem At{ops:Array Oper}{rest:List Oper}{o:Oper}{a:Act}{w:World}{Q:Exit→Act→World→Prop}(hgd:o.guard=none)(s x:Operand)(ho:o.op= .call {callee:=.builtin .append,args:=#[s,x],argTypes:=#[59,59]})(B:Nat)(v:Value)(L M:List (Array Value))(hs:a.eval s=v)(hown:aV w B 103 13 v L)(ad:Addr)(m k:Nat)(hx:a.eval x= .slice (some ad) m k)(hM:Sl w (E (some ad) m k) 13 M)(hlen:L.length+M.length≤200000)(hbase:B≤w.heap.size)(h:∀v' w',aV w' B 103 13 v' (L++M)→Below B w w'→(v'= .slice none 0 0↔v= .slice none 0 0∧M=[])→wpList Tryz.prog ops Q rest (a.put o.dst v') w'):wpList Tryz.prog ops Q (o::rest) a w:=by obtain⟨i0,hi,hz0,hz1,hz2⟩:=info_parts Gt;exact eK hgd s x 59 ho B 103 i0 (.agg #[Z,F,U,U,Z,F,Z,Z,Z,Z,Z,V,V]) 13 136 Tryz.underlying59 hi hz0 hz1 hz2 rfl az v L M hs hown ad m k hx hM aa aa hbase h
theorem LW{ops:Array Oper}{rest:List Oper}{o:Oper}{a:Act}{w:World}{Q:Exit→Act→World→Prop}(hgd:o.guard=none)(s x:Operand)(ho:o.op= .call {callee:=.builtin .append,args:=#[s,x],argTypes:=#[60,60]})(B:Nat)(v:Value)(L M:List (Array Value))(hs:a.eval s=v)(hown:aV w B 64 8 v L)(ad:Addr)(m k:Nat)(hx:a.eval x= .slice (some ad) m k)(hM:Sl w (E (some ad) m k) 8 M)(hlen:L.length+M.length≤200000)(hbase:B≤w.heap.size)(h:∀v' w',aV w' B 64 8 v' (L++M)→Below B w w'→(v'= .slice none 0 0↔v= .slice none 0 0∧M=[])→wpList Tryz.prog ops Q rest (a.put o.dst v') w'):wpList Tryz.prog ops Q (o::rest) a w:=by obtain⟨i0,hi,hz0,hz1,hz2⟩:=info_parts Kb;exact eK hgd s x 60 ho B 64 i0 (.agg #[Z,F,U,U,Z,Z,Z,V]) 8 80 Tryz.underlying60 hi hz0 hz1 hz2 rfl az v L M hs hown ad m k hx hM aa aa hbase h
theorem O7{ops:Array Oper}{rest:List Oper}{o:Oper}{a:Act}{w:World}{Q:Exit→Act→World→Prop}(hgd:o.guard=none)(s x:Operand)(ho:o.op= .call {callee:=.builtin .append,args:=#[s,x],argTypes:=#[48,48]})(B:Nat)(v:Value)(L M:List (Array Value))(hs:a.eval s=v)(hown:aV w B 62 5 v L)(ad:Addr)(m k:Nat)(hx:a.eval x= .slice (some ad) m k)(hM:Sl w (E (some ad) m k) 5 M)(hlen:L.length+M.length≤200000)(hbase:B≤w.heap.size)(h:∀v' w',aV w' B 62 5 v' (L++M)→Below B w w'→(v'= .slice none 0 0↔v= .slice none 0 0∧M=[])→wpList Tryz.prog ops Q rest (a.put o.dst v') w'):wpList Tryz.prog ops Q (o::rest) a w:=by obtain⟨i0,hi,hz0,hz1,hz2⟩:=info_parts Cn;exact eK hgd s x 48 ho B 62 i0 (.agg #[V,Z,V,V,F]) 5 88 Tryz.underlying48 hi hz0 hz1 hz2 rfl az v L M hs hown ad m k hx hM aa aa hbase h
theorem MI{ops:Array Oper}{rest:List Oper}{o:Oper}{a:Act}{w:World}{Q:Exit→Act→World→Prop}(hgd:o.guard=none)(s x:Operand)(ho:o.op= .call {callee:=.builtin .append,args:=#[s,x],argTypes:=#[45,45]})(B:Nat)(v:Value)(L M:List (Array Value))(hs:a.eval s=v)(hown:aV w B 186 2 v L)(ad:Addr)(m k:Nat)(hx:a.eval x= .slice (some ad) m k)(hM:Sl w (E (some ad) m k) 2 M)(hlen:L.length+M.length≤200000)(hbase:B≤w.heap.size)(h:∀v' w',aV w' B 186 2 v' (L++M)→Below B w w'→(v'= .slice none 0 0↔v= .slice none 0 0∧M=[])→wpList Tryz.prog ops Q rest (a.put o.dst v') w'):wpList Tryz.prog ops Q (o::rest) a w:=by obtain⟨i0,hi,hz0,hz1,hz2⟩:=info_parts Gy;exact eK hgd s x 45 ho B 186 i0 (.agg #[Z,V]) 2 32 Tryz.underlying45 hi hz0 hz1 hz2 rfl az v L M hs hown ad m k hx hM aa aa hbase h
theorem FF{ops:Array Oper}{rest:List Oper}{o:Oper}{a:Act}{w:World}{Q:Exit→Act→World→Prop}(hgd:o.guard=none)(s x:Operand)(ho:o.op= .call {callee:=.builtin .append,args:=#[s,x],argTypes:=#[44,44]})(B:Nat)(v:Value)(L M:List (Array Value))(hs:a.eval s=v)(hown:aV w B 129 2 v L)(ad:Addr)(m k:Nat)(hx:a.eval x= .slice (some ad) m k)(hM:Sl w (E (some ad) m k) 2 M)(hlen:L.length+M.length≤200000)(hbase:B≤w.heap.size)(h:∀v' w',aV w' B 129 2 v' (L++M)→Below B w w'→(v'= .slice none 0 0↔v= .slice none 0 0∧M=[])→wpList Tryz.prog ops Q rest (a.put o.dst v') w'):wpList Tryz.prog ops Q (o::rest) a w:=by obtain⟨i0,hi,hz0,hz1,hz2⟩:=info_parts Gv;exact eK hgd s x 44 ho B 129 i0 (.agg #[Z,V]) 2 32 Tryz.underlying44 hi hz0 hz1 hz2 rfl az v L M hs hown ad m k hx hM aa aa hbase h
theorem Jn{ops:Array Oper}{rest:List Oper}{o:Oper}{a:Act}{w:World}{Q:Exit→Act→World→Prop}(hgd:o.guard=none)(s x:Operand)(ho:o.op= .call {callee:=.builtin .append,args:=#[s,x],argTypes:=#[23,23]})(B:Nat)(v:Value)(L M:List (Array Value))(hs:a.eval s=v)(hown:aV w B 3 1 v L)(ad:Addr)(m k:Nat)(hx:a.eval x= .slice (some ad) m k)(hM:Sl w (E (some ad) m k) 1 M)(hlen:L.length+M.length≤200000)(hbase:B≤w.heap.size)(h:∀v' w',aV w' B 3 1 v' (L++M)→Below B w w'→(v'= .slice none 0 0↔v= .slice none 0 0∧M=[])→wpList Tryz.prog ops Q rest (a.put o.dst v') w'):wpList Tryz.prog ops Q (o::rest) a w:=by obtain⟨i0,hi,hz0,hz1,hz2⟩:=info_parts AT;exact eK hgd s x 23 ho B 3 i0 Z 1 8 Tryz.underlying23 hi hz0 hz1 hz2 rfl az v L M hs hown ad m k hx hM aa aa hbase h
theorem Au{ops:Array Oper}{rest:List Oper}{o:Oper}{a:Act}{w:World}{Q:Exit→Act→World→Prop}(hgd:o.guard=none)(s x:Operand)(ho:o.op= .call {callee:=.builtin .append,args:=#[s,x],argTypes:=#[49,49]})(B:Nat)(v:Value)(L M:List (Array Value))(hs:a.eval s=v)(hown:aV w B 107 37 v L)(ad:Addr)(m k:Nat)(hx:a.eval x= .slice (some ad) m k)(hM:Sl w (E (some ad) m k) 37 M)(hlen:L.length+M.length≤200000)(hbase:B≤w.heap.size)(h:∀v' w',aV w' B 107 37 v' (L++M)→Below B w w'→(v'= .slice none 0 0↔v= .slice none 0 0∧M=[])→wpList Tryz.prog ops Q rest (a.put o.dst v') w'):wpList Tryz.prog ops Q (o::rest) a w:=by obtain⟨i0,hi,hz0,hz1,hz2⟩:=info_parts Gu;exact eK hgd s x 49 ho B 107 i0 (.agg #[.int .i64 0,.int .i64 0,.int .i64 0,.int .i64 0,.int .i64 0,.int .i64 0,.int .i64 0,.int .i64 0,.int .i64 0,.int .i64 0,.bool false,.int .u64 0,.int .u64 0,.int .i64 0,.bool false,.int .i64 0,.int .i64 0,.int .i64 0,.int .i64 0,.int .i64 0,.slice none 0 0,.slice none 0 0,.bool false,.int .i64 0,.bool false,.int .u64 0,.int .u64 0,.int .i64 0,.bool false,.int .i64 0,.int .i64 0,.int .i64 0,.int .i64 0,.int .i64 0,.slice none 0 0,.slice none 0 0,.bool false]) 37 360 Tryz.underlying49 hi hz0 hz1 hz2 rfl az v L M hs hown ad m k hx hM aa aa hbase h
theorem dW(w:World)(B:Nat)(e:TypeId)(n:Nat)(g:Nat)(hg:g=w.heap.size)(hB:B≤w.heap.size):aV (w.alloc (.cells #[] e)) B e n (G g 0 0) []:=by subst hg;refine⟨⟨jF,.inr ⟨w.heap.size,0,#[],rfl,hB,(MapKept.heap_alloc w _).1,Nat.le_refl _,Nat.zero_le _,ay,jF⟩⟩,ay⟩
theorem JN(v:Value)(L:List (Array Value))(w:World)(h:Sl w v 12 L)(hl:L.length≤100000):Calls Tryz.prog 50 #[v] w fun e w'=>∃v',e= .returned v'∧aV w' w.heap.size 41 12 v' L∧Below w.heap.size w w':=by
 have qT:∀(w:World)(a:Option Addr)(n c n' c':Nat),(binOp .eql 32 (E a n c) (E none n' c')).run Tryz.prog w= .ok a.isNone w:=fun w a n c n' c'=>Lib.run_eql_slice_nil (P:=Tryz.prog) w 32 41 a n c n' c' Tryz.underlying32;have hb0:=(Below.refl w.heap.size w).alloc (Nat.le_refl _) (.cells #[] 41);have hd:=Lib.hid (h.below hb0);have ho:=Lib.hid (dW w w.heap.size 41 12 _ rfl (Nat.le_refl _));have hz:aV w w.heap.size 41 12 V []:=aV.nil _ _ _ _;obtain⟨a,cap,rfl,h1,h2,h3⟩:=h;rcases h3 with⟨rfl,rfl⟩|⟨g,o,rfl,hg,h4⟩;·go_enter Tryz.func50,Tryz.ntmps50;go_wp2;go_ret;exact⟨_,rfl,hz,Below.refl _ _⟩
 ·have HB:=Lib.hid hb0;clear h4 hz hb0;go_enter Tryz.func50,Tryz.ntmps50;go_wp2_with(first|(at_builtin;refine O6 rfl (.tmp 5) (.tmp 6) rfl w.heap.size _ [] L rfl ho.out _ _ _ rfl hd.out aF ay ?_;intro v' w1 hown hbel hnil));go_ret;exact⟨_,rfl,jb,HB.out.trans hbel⟩
theorem JO(v:Value)(L:List (Array Value))(w:World)(h:Sl w v 5 L)(hl:L.length≤100000):Calls Tryz.prog 54 #[v] w fun e w'=>∃v',e= .returned v'∧aV w' w.heap.size 62 5 v' L∧Below w.heap.size w w':=by
 have qT:∀(w:World)(a:Option Addr)(n c n' c':Nat),(binOp .eql 48 (E a n c) (E none n' c')).run Tryz.prog w= .ok a.isNone w:=fun w a n c n' c'=>Lib.run_eql_slice_nil (P:=Tryz.prog) w 48 62 a n c n' c' Tryz.underlying48;have hb0:=(Below.refl w.heap.size w).alloc (Nat.le_refl _) (.cells #[] 62);have hd:=Lib.hid (h.below hb0);have ho:=Lib.hid (dW w w.heap.size 62 5 _ rfl (Nat.le_refl _));have hz:aV w w.heap.size 62 5 V []:=aV.nil _ _ _ _;obtain⟨a,cap,rfl,h1,h2,h3⟩:=h;rcases h3 with⟨rfl,rfl⟩|⟨g,o,rfl,hg,h4⟩;·go_enter Tryz.func54,Tryz.ntmps54;go_wp2;go_ret;exact⟨_,rfl,hz,Below.refl _ _⟩
 ·have HB:=Lib.hid hb0;clear h4 hz hb0;go_enter Tryz.func54,Tryz.ntmps54;go_wp2_with(first|(at_builtin;refine O7 rfl (.tmp 5) (.tmp 6) rfl w.heap.size _ [] L rfl ho.out _ _ _ rfl hd.out aF ay ?_;intro v' w1 hown hbel hnil));go_ret;exact⟨_,rfl,jb,HB.out.trans hbel⟩
theorem JP(v:Value)(L:List (Array Value))(w:World)(h:Sl w v 37 L)(hl:L.length≤100000):Calls Tryz.prog 55 #[v] w fun e w'=>∃v',e= .returned v'∧aV w' w.heap.size 107 37 v' L∧Below w.heap.size w w':=by
 have qT:∀(w:World)(a:Option Addr)(n c n' c':Nat),(binOp .eql 49 (E a n c) (E none n' c')).run Tryz.prog w= .ok a.isNone w:=fun w a n c n' c'=>Lib.run_eql_slice_nil (P:=Tryz.prog) w 49 107 a n c n' c' Tryz.underlying49;have hb0:=(Below.refl w.heap.size w).alloc (Nat.le_refl _) (.cells #[] 107);have hd:=Lib.hid (h.below hb0);have ho:=Lib.hid (dW w w.heap.size 107 37 _ rfl (Nat.le_refl _));have hz:aV w w.heap.size 107 37 V []:=aV.nil _ _ _ _;obtain⟨a,cap,rfl,h1,h2,h3⟩:=h;rcases h3 with⟨rfl,rfl⟩|⟨g,o,rfl,hg,h4⟩;·go_enter Tryz.func55,Tryz.ntmps55;go_wp2;go_ret;exact⟨_,rfl,hz,Below.refl _ _⟩
 ·have HB:=Lib.hid hb0;clear h4 hz hb0;go_enter Tryz.func55,Tryz.ntmps55;go_wp2_with(first|(at_builtin;refine Au rfl (.tmp 5) (.tmp 6) rfl w.heap.size _ [] L rfl ho.out _ _ _ rfl hd.out aF ay ?_;intro v' w1 hown hbel hnil));go_ret;exact⟨_,rfl,jb,HB.out.trans hbel⟩
theorem B9(v:Value)(L:List (Array Value))(w:World)(h:Sl w v 1 L)(hl:L.length≤100000):Calls Tryz.prog 87 #[v] w fun e w'=>∃v',e= .returned v'∧aV w' w.heap.size 3 1 v' L∧Below w.heap.size w w':=by
 have qT:∀(w:World)(a:Option Addr)(n c n' c':Nat),(binOp .eql 23 (E a n c) (E none n' c')).run Tryz.prog w= .ok a.isNone w:=fun w a n c n' c'=>Lib.run_eql_slice_nil (P:=Tryz.prog) w 23 3 a n c n' c' Tryz.underlying23;have hb0:=(Below.refl w.heap.size w).alloc (Nat.le_refl _) (.cells #[] 3);have hd:=Lib.hid (h.below hb0);have ho:=Lib.hid (dW w w.heap.size 3 1 _ rfl (Nat.le_refl _));have hz:aV w w.heap.size 3 1 V []:=aV.nil _ _ _ _;obtain⟨a,cap,rfl,h1,h2,h3⟩:=h;rcases h3 with⟨rfl,rfl⟩|⟨g,o,rfl,hg,h4⟩;·go_enter Tryz.func87,Tryz.ntmps87;go_wp2;go_ret;exact⟨_,rfl,hz,Below.refl _ _⟩
 ·have HB:=Lib.hid hb0;clear h4 hz hb0;go_enter Tryz.func87,Tryz.ntmps87;go_wp2_with(first|(at_builtin;refine Jn rfl (.tmp 5) (.tmp 6) rfl w.heap.size _ [] L rfl ho.out _ _ _ rfl hd.out aF ay ?_;intro v' w1 hown hbel hnil));go_ret;exact⟨_,rfl,jb,HB.out.trans hbel⟩
theorem JQ(v:Value)(L:List (Array Value))(w:World)(h:Sl w v 13 L)(hl:L.length≤100000):Calls Tryz.prog 92 #[v] w fun e w'=>∃v',e= .returned v'∧aV w' w.heap.size 103 13 v' L∧Below w.heap.size w w':=by
 have qT:∀(w:World)(a:Option Addr)(n c n' c':Nat),(binOp .eql 59 (E a n c) (E none n' c')).run Tryz.prog w= .ok a.isNone w:=fun w a n c n' c'=>Lib.run_eql_slice_nil (P:=Tryz.prog) w 59 103 a n c n' c' Tryz.underlying59;have hb0:=(Below.refl w.heap.size w).alloc (Nat.le_refl _) (.cells #[] 103);have hd:=Lib.hid (h.below hb0);have ho:=Lib.hid (dW w w.heap.size 103 13 _ rfl (Nat.le_refl _));have hz:aV w w.heap.size 103 13 V []:=aV.nil _ _ _ _;obtain⟨a,cap,rfl,h1,h2,h3⟩:=h;rcases h3 with⟨rfl,rfl⟩|⟨g,o,rfl,hg,h4⟩;·go_enter Tryz.func92,Tryz.ntmps92;go_wp2;go_ret;exact⟨_,rfl,hz,Below.refl _ _⟩
 ·have HB:=Lib.hid hb0;clear h4 hz hb0;go_enter Tryz.func92,Tryz.ntmps92;go_wp2_with(first|(at_builtin;refine At rfl (.tmp 5) (.tmp 6) rfl w.heap.size _ [] L rfl ho.out _ _ _ rfl hd.out aF ay ?_;intro v' w1 hown hbel hnil));go_ret;exact⟨_,rfl,jb,HB.out.trans hbel⟩
theorem JR(v:Value)(L:List (Array Value))(w:World)(h:Sl w v 8 L)(hl:L.length≤100000):Calls Tryz.prog 94 #[v] w fun e w'=>∃v',e= .returned v'∧aV w' w.heap.size 64 8 v' L∧Below w.heap.size w w':=by
 have qT:∀(w:World)(a:Option Addr)(n c n' c':Nat),(binOp .eql 60 (E a n c) (E none n' c')).run Tryz.prog w= .ok a.isNone w:=fun w a n c n' c'=>Lib.run_eql_slice_nil (P:=Tryz.prog) w 60 64 a n c n' c' Tryz.underlying60;have hb0:=(Below.refl w.heap.size w).alloc (Nat.le_refl _) (.cells #[] 64);have hd:=Lib.hid (h.below hb0);have ho:=Lib.hid (dW w w.heap.size 64 8 _ rfl (Nat.le_refl _));have hz:aV w w.heap.size 64 8 V []:=aV.nil _ _ _ _;obtain⟨a,cap,rfl,h1,h2,h3⟩:=h;rcases h3 with⟨rfl,rfl⟩|⟨g,o,rfl,hg,h4⟩;·go_enter Tryz.func94,Tryz.ntmps94;go_wp2;go_ret;exact⟨_,rfl,hz,Below.refl _ _⟩
 ·have HB:=Lib.hid hb0;clear h4 hz hb0;go_enter Tryz.func94,Tryz.ntmps94;go_wp2_with(first|(at_builtin;refine LW rfl (.tmp 5) (.tmp 6) rfl w.heap.size _ [] L rfl ho.out _ _ _ rfl hd.out aF ay ?_;intro v' w1 hown hbel hnil));go_ret;exact⟨_,rfl,jb,HB.out.trans hbel⟩
theorem rv(v:Value)(L:List (Array Value))(w:World)(h:Sl w v 10 L)(hl:L.length≤100000):Calls Tryz.prog 113 #[v] w fun e w'=>∃v',e= .returned v'∧aV w' w.heap.size 75 10 v' L∧Below w.heap.size w w':=by
 have qT:∀(w:World)(a:Option Addr)(n c n' c':Nat),(binOp .eql 55 (E a n c) (E none n' c')).run Tryz.prog w= .ok a.isNone w:=fun w a n c n' c'=>Lib.run_eql_slice_nil (P:=Tryz.prog) w 55 75 a n c n' c' Tryz.underlying55;have hb0:=(Below.refl w.heap.size w).alloc (Nat.le_refl _) (.cells #[] 75);have hd:=Lib.hid (h.below hb0);have ho:=Lib.hid (dW w w.heap.size 75 10 _ rfl (Nat.le_refl _));have hz:aV w w.heap.size 75 10 V []:=aV.nil _ _ _ _;obtain⟨a,cap,rfl,h1,h2,h3⟩:=h;rcases h3 with⟨rfl,rfl⟩|⟨g,o,rfl,hg,h4⟩;·go_enter Tryz.func113,Tryz.ntmps113;go_wp2;go_ret;exact⟨_,rfl,hz,Below.refl _ _⟩
 ·have HB:=Lib.hid hb0;clear h4 hz hb0;go_enter Tryz.func113,Tryz.ntmps113;go_wp2_with(first|(at_builtin;refine pD rfl (.tmp 5) (.tmp 6) rfl w.heap.size _ [] L rfl ho.out _ _ _ rfl hd.out aF ay ?_;intro v' w1 hown hbel hnil));go_ret;exact⟨_,rfl,jb,HB.out.trans hbel⟩
theorem Gf(v:Value)(L:List (Array Value))(w:World)(h:Sl w v 2 L)(hl:L.length≤100000):Calls Tryz.prog 128 #[v] w fun e w'=>∃v',e= .returned v'∧aV w' w.heap.size 186 2 v' L∧Below w.heap.size w w':=by
 have qT:∀(w:World)(a:Option Addr)(n c n' c':Nat),(binOp .eql 45 (E a n c) (E none n' c')).run Tryz.prog w= .ok a.isNone w:=fun w a n c n' c'=>Lib.run_eql_slice_nil (P:=Tryz.prog) w 45 186 a n c n' c' Tryz.underlying45;have hb0:=(Below.refl w.heap.size w).alloc (Nat.le_refl _) (.cells #[] 186);have hd:=Lib.hid (h.below hb0);have ho:=Lib.hid (dW w w.heap.size 186 2 _ rfl (Nat.le_refl _));have hz:aV w w.heap.size 186 2 V []:=aV.nil _ _ _ _;obtain⟨a,cap,rfl,h1,h2,h3⟩:=h;rcases h3 with⟨rfl,rfl⟩|⟨g,o,rfl,hg,h4⟩;·go_enter Tryz.func128,Tryz.ntmps128;go_wp2;go_ret;exact⟨_,rfl,hz,Below.refl _ _⟩
 ·have HB:=Lib.hid hb0;clear h4 hz hb0;go_enter Tryz.func128,Tryz.ntmps128;go_wp2_with(first|(at_builtin;refine MI rfl (.tmp 5) (.tmp 6) rfl w.heap.size _ [] L rfl ho.out _ _ _ rfl hd.out aF ay ?_;intro v' w1 hown hbel hnil));go_ret;exact⟨_,rfl,jb,HB.out.trans hbel⟩
theorem Gg(v:Value)(L:List (Array Value))(w:World)(h:Sl w v 2 L)(hl:L.length≤100000):Calls Tryz.prog 185 #[v] w fun e w'=>∃v',e= .returned v'∧aV w' w.heap.size 129 2 v' L∧Below w.heap.size w w':=by
 have qT:∀(w:World)(a:Option Addr)(n c n' c':Nat),(binOp .eql 44 (E a n c) (E none n' c')).run Tryz.prog w= .ok a.isNone w:=fun w a n c n' c'=>Lib.run_eql_slice_nil (P:=Tryz.prog) w 44 129 a n c n' c' Tryz.underlying44;have hb0:=(Below.refl w.heap.size w).alloc (Nat.le_refl _) (.cells #[] 129);have hd:=Lib.hid (h.below hb0);have ho:=Lib.hid (dW w w.heap.size 129 2 _ rfl (Nat.le_refl _));have hz:aV w w.heap.size 129 2 V []:=aV.nil _ _ _ _;obtain⟨a,cap,rfl,h1,h2,h3⟩:=h;rcases h3 with⟨rfl,rfl⟩|⟨g,o,rfl,hg,h4⟩;·go_enter Tryz.func185,Tryz.ntmps185;go_wp2;go_ret;exact⟨_,rfl,hz,Below.refl _ _⟩
 ·have HB:=Lib.hid hb0;clear h4 hz hb0;go_enter Tryz.func185,Tryz.ntmps185;go_wp2_with(first|(at_builtin;refine FF rfl (.tmp 5) (.tmp 6) rfl w.heap.size _ [] L rfl ho.out _ _ _ rfl hd.out aF ay ?_;intro v' w1 hown hbel hnil));go_ret;exact⟨_,rfl,jb,HB.out.trans hbel⟩
section
theorem yo{n:Nat}:∀{L:List (Array Value)}{i:Nat}{C:Array Value},(∀D∈L,D.size=n)→C.size=n→i<L.length→flat (L.set i C)=(flat L).take (i*n)++C.toList++(flat L).drop (i*n+n)
 |[],i,C,h,hC,hi=>by simp at hi
 |D::L,0,C,h,hC,hi=>by
  have hD:=h D ay;have e:D.toList.length=n:=by simpa using hD
  show flat (C::L)=_;simp only[flat,List.flatMap_cons,Nat.zero_mul,List.take_zero,List.nil_append,Nat.zero_add];rw[List.drop_append_of_le_length aa,List.drop_eq_nil_of_le aa,List.nil_append]
 |D::L,i+1,C,h,hC,hi=>by
  have hD:=h D ay;have e:D.toList.length=n:=by simpa using hD
  have ih:=yo (L:=L) (i:=i) (C:=C) (fun Ex hE=>h Ex (by simp[hE])) hC lw;show flat (D::L.set i C)=_;have e1:flat (D::L.set i C)=D.toList++flat (L.set i C):=jF;have e2:flat (D::L)=D.toList++flat L:=jF;rw[e1,e2,ih];have a1:(i+1)*n=D.toList.length+i*n:=by rw[e,Nat.add_mul];omega
  have a2:(i+1)*n+n=D.toList.length+(i*n+n):=aa;rw[a1,Nat.add_assoc D.toList.length,List.take_length_add_append,List.drop_length_add_append];simp
theorem aV.setEl{W:World}{B:Nat}{e:TypeId}{n:Nat}{v:Value}{L:List (Array Value)}(h:aV W B e n v L){i:Nat}(hi:i<L.length){C:Array Value}(hC:C.size=n)(h1:bB C=true):∃g cap,v= .slice (some ⟨g,0,none⟩) L.length cap∧L.length≤cap∧cap≤maxLen∧B≤g∧g<W.heap.size∧bU W g (i*n) n=true∧aV (dK W g (i*n) C) B e n v (L.set i C):=by
 obtain⟨⟨k1,k2⟩,k3⟩:=h;rcases k2 with⟨_,k2⟩|⟨g,cap,cur,rfl,hB,hg,hc,hm,hz,ht⟩;·omega
 have hgl:g<W.heap.size:=(Array.getElem?_eq_some_iff.1 hg).1;have hle:i*n+n≤cap*n:=by have:(i+1)*n≤cap*n:=Nat.mul_le_mul_right n aa;rw[Nat.add_mul]at this;omega
 have hle2:i*n+n≤L.length*n:=by have:(i+1)*n≤L.length*n:=Nat.mul_le_mul_right n aa;rw[Nat.add_mul]at this;omega
 have hrow:aH W g=cur:=by unfold aH;rw[hg]
 refine⟨g,cap,rfl,hc,hm,hB,hgl,?_,?_⟩;·unfold bU;rw[hg];simp;omega
 refine⟨⟨?_,.inr ⟨g,cap,er cur (i*n) C,ay,hB,?_,uH,hm,?_,?_⟩⟩,fun D hD=>?_⟩;·
  rw[eR (n:=n) fun D hD=>?_];rcases List.mem_or_eq_of_mem_set hD with hD|rfl;·exact(k3 D hD).1
  ·exact hC
 ·rw[dK,hrow];unfold World.setRow;simp[Array.getElem?_modify,hg]
 ·rw[sV aa];exact hz
 ·have hcl:cur.toList.length=cap*n:=by simpa using hz
  have hll:(cur.toList.take (L.length*n)).length=L.length*n:=by rw[List.length_take,hcl];exact Nat.min_eq_left (Nat.mul_le_mul_right n hc)
  rw[yo (fun D hD=>(k3 D hD).1) hC hi,←ht,List.length_set];have e0:C.toList.length=n:=by simpa using hC
  unfold er;rw[hC];show((cur.toList.take (i*n)++C.toList++cur.toList.drop (i*n+n))).take (L.length*n)=_;rw[List.take_take,Nat.min_eq_left aa,List.drop_take,List.append_assoc,List.append_assoc,List.take_append,List.length_take,hcl,Nat.min_eq_left aa,List.take_of_length_le xN];congr 1;rw[List.take_append,e0,List.take_of_length_le aa];congr 2;omega
 ·rcases List.mem_or_eq_of_mem_set hD with hD|rfl;·exact k3 D hD
  ·exact⟨hC,h1⟩
def i5{α:Type}(R:World→Array Value→α→Prop)(W:World)(Cs:List (Array Value))(xs:List α):Prop:=Cs.length=xs.length∧∀(i:Nat)(C:Array Value)(x:α),Cs[i]? =some C→xs[i]? =some x→R W C x
section
variable{α:Type}{R:World→Array Value→α→Prop}{W W':World}{Cs:List (Array Value)}{xs:List α}
theorem i5.mono(h:i5 R W Cs xs)(hR:∀C x,R W C x→R W' C x):i5 R W' Cs xs:=⟨h.1,fun i C x h1 h2=>hR C x (h.2 i C x h1 h2)⟩
theorem i5.nil(R:World→Array Value→α→Prop)(W:World):i5 R W [] []:=⟨rfl,fun i C x h=>by simp at h⟩
theorem i5.snoc(h:i5 R W Cs xs){C:Array Value}{x:α}(hC:R W C x):i5 R W (Cs++[C]) (xs++[x]):=by
 refine⟨by simp[h.1],fun i D y h1 h2=>?_⟩;rw[List.getElem?_append]at h1 h2;split at h1;·rename_i hi;rw[if_pos (by rw[←h.1];exact hi)]at h2;exact h.2 i D y h1 h2
 ·rename_i hi;rw[if_neg (by rw[←h.1];exact hi)]at h2;rw[←h.1]at h2;cases e:i-Cs.length with
   |zero=>rw[e]at h1 h2;simp at h1 h2;subst h1 h2;exact hC
   |succ k=>rw[e]at h1;simp at h1
theorem i5.set(h:i5 R W Cs xs){C:Array Value}{x:α}(hC:R W C x)(i:Nat):i5 R W (Cs.set i C) (xs.set i x):=by
 refine⟨by simp[h.1],fun j D y h1 h2=>?_⟩;rw[List.getElem?_set]at h1 h2;by_cases e:i=j;·
  subst e;by_cases hi:i<Cs.length;·have hi':i<xs.length:=h.1▸hi;simp[hi]at h1;simp[hi']at h2;subst h1 h2;exact hC
  ·simp[hi]at h1
 ·rw[if_neg e]at h1 h2;exact h.2 j D y h1 h2
theorem i5.at(h:i5 R W Cs xs){i:Nat}{x:α}(hx:xs[i]? =some x):∃C,Cs[i]? =some C∧R W C x:=by
 have hi:i<Cs.length:=by rw[h.1];exact(List.getElem?_eq_some_iff.1 hx).1
 exact⟨_,List.getElem?_eq_getElem hi,h.2 i _ x (List.getElem?_eq_getElem hi) hx⟩
end
def Am(W:World)(C:Array Value)(t:Pm.Task):Prop:=∃vc vg vr,C=(#[vc,t.nth,vg,vr,F]:AV)∧Sl W vc 12 (t.calls.map fM)∧Sl W vg 13 (t.got.map Ae)∧Sl W vr 8 (t.replies.map Iw)
def ie(W:World)(C:Array Value)(s:Nat×List Nat):Prop:=∃v,C=(#[I s.1,v]:AV)∧Sl W v 10 (s.2.map aJ)
def qE(i:Nat):Array Value:=#[i]
def Ak(W:World)(C:Array Value)(k:Nat×List Nat):Prop:=∃v,C=(#[I k.1,v]:AV)∧Sl W v 1 (k.2.map qE)
theorem Am.below{W W':World}{C:Array Value}{t:Pm.Task}(h:Am W C t)(k:Below W.heap.size W W'):Am W' C t:=by obtain⟨a,b,c,h0,h1,h2,h3⟩:=h;exact⟨a,b,c,h0,h1.below k,h2.below k,h3.below k⟩
theorem ie.below{W W':World}{C:Array Value}{t:Nat×List Nat}(h:ie W C t)(k:Below W.heap.size W W'):ie W' C t:=by obtain⟨a,h0,h1⟩:=h;exact⟨a,h0,h1.below k⟩
theorem Ak.below{W W':World}{C:Array Value}{t:Nat×List Nat}(h:Ak W C t)(k:Below W.heap.size W W'):Ak W' C t:=by obtain⟨a,h0,h1⟩:=h;exact⟨a,h0,h1.below k⟩
end
section
def Kp(R:Nat→Prop)(W W':World):Prop:=W.heap.size≤W'.heap.size∧∀q,R q→q<W.heap.size→W'.heap[q]? =W.heap[q]?
section
variable{R R':Nat→Prop}{W W' W2:World}
theorem Kp.below(k:Below W.heap.size W W'):Kp R W W':=⟨k.size,fun q _ h=>k.block q h⟩
theorem Kp.upto{T:Nat}(k:ax T W W')(hT:¬R T):Kp R W W':=⟨k.size,fun q hq h=>k.block q h fun e=>hT (e▸hq)⟩
theorem Kp.trans(h:Kp R W W')(k:Kp R W' W2):Kp R W W2:=⟨Nat.le_trans h.1 k.1,fun q hq hl=>(k.2 q hq (Nat.lt_of_lt_of_le hl h.1)).trans (h.2 q hq hl)⟩
theorem Kp.mono(h:Kp R W W')(k:∀q,R' q→R q):Kp R' W W':=⟨h.1,fun q hq=>h.2 q (k q hq)⟩
def Sr(R:Nat→Prop)(W:World)(v:Value)(n:Nat)(L:List (Array Value)):Prop:=Sl W v n L∧∀q,v.ownBlock=some q→R q
theorem Sr.keep{v:Value}{n:Nat}{L:List (Array Value)}(h:Sr R W v n L)(k:Kp R W W')(m:∀q,R q→R' q):Sr R' W' v n L:=⟨h.1.same k.1 fun q hq hl=>k.2 q (h.2 q hq) hl,fun q hq=>m q (h.2 q hq)⟩
def So(R:Nat→Prop)(W:World)(v:Value)(n:Nat):Option (List (Array Value))→Prop
 |none=>v= .slice none 0 0
 |some L=>Sr R W v n L
theorem So.keep{v:Value}{n:Nat}:∀{L:Option (List (Array Value))},So R W v n L→Kp R W W'→(∀q,R q→R' q)→So R' W' v n L
 |none,h,_,_=>h
 |some L,h,k,m=>Sr.keep h k m
theorem So.shape{v:Value}{n:Nat}:∀{L:Option (List (Array Value))},So R W v n L→∃a m c,v= .slice a m c
 |none,h=>⟨_,_,_,h⟩
 |some L,⟨⟨a,c,h,_⟩,_⟩=>⟨a,_,c,h⟩
theorem So.reach{v:Value}{n:Nat}:∀{L:Option (List (Array Value))},So R W v n L→∀q,v.ownBlock=some q→R q
 |none,h,q,hq=>by rw[h]at hq;cases hq
 |some L,h,q,hq=>h.2 q hq
end
def jC{α:Type}(P:(Nat→Prop)→World→Array Value→α→Prop):Prop:=∀{R R':Nat→Prop}{W W':World}{C:Array Value}{x:α},P R W C x→Kp R W W'→(∀q,R q→R' q)→P R' W' C x
def Se{α:Type}(P:(Nat→Prop)→World→Array Value→α→Prop)(R:Nat→Prop)(W:World)(v:Value)(n:Nat)(xs:List α):Prop:=∃L,Sr R W v n L∧i5 (P R) W L xs
section
variable{α:Type}{P:(Nat→Prop)→World→Array Value→α→Prop}{R R':Nat→Prop}{W W':World}{v:Value}{n:Nat}{xs:List α}
theorem i5.keep{L:List (Array Value)}(hP:jC P)(h:i5 (P R) W L xs)(k:Kp R W W')(m:∀q,R q→R' q):i5 (P R') W' L xs:=⟨h.1,fun i C x hC hx=>hP (h.2 i C x hC hx) k m⟩
theorem Se.keep(hP:jC P)(h:Se P R W v n xs)(k:Kp R W W')(m:∀q,R q→R' q):Se P R' W' v n xs:=by obtain⟨L,h1,h2⟩:=h;exact⟨L,h1.keep k m,h2.keep hP k m⟩
theorem Se.shape(h:Se P R W v n xs):∃a c,v= .slice a xs.length c:=by obtain⟨L,⟨⟨a,c,h0,_⟩,_⟩,h2⟩:=h;exact⟨a,c,by rw[h0,h2.1]⟩
end
structure Vl where
 n:Int
 p:Array Value
 bn:Option (List (Array Value))
 bk:Option (List (Array Value))
structure Oq where
 k:Int
 lk:Int
 a:Int
 b:Int
 c:Int
 x:Int
 y:Int
 v:Vl
 m:Bool
structure Tk where
 calls:List (Array Value)
 nth:Nat
 got:List Vl
 rep:List (Array Value)
structure Mm where
 inn:Int
 out:Int
 bn:Option (List (Array Value))
 bk:Option (List (Array Value))
 sh:List (Int×List (Array Value))
 lk:List (Int×List Nat)
def vC(n:Int)(p:Array Value)(sb sk:Value):Array Value:=(#[n]:AV)++p++#[sb,sk]
def jD(R:Nat→Prop)(W:World)(C:Array Value)(v:Vl):Prop:=∃sb sk,C=vC v.n v.p sb sk∧v.p.size=10∧bB v.p=true∧So R W sb 5 v.bn∧So R W sk 7 v.bk
def oC(o:Oq)(CV:Array Value):Array Value:=(#[o.k,o.lk,o.a,o.b,o.c,o.x,o.y]:AV)++CV++(#[o.m]:AV)
def xq(R:Nat→Prop)(W:World)(C:Array Value)(o:Oq):Prop:=∃CV,C=oC o CV∧jD R W CV o.v
def mY(R:Nat→Prop)(W:World)(C:Array Value)(t:Tk):Prop:=∃vc vg vr,C=(#[vc,t.nth,vg,vr,F]:AV)∧Sr R W vc 12 t.calls∧Se jD R W vg 13 t.got∧Sr R W vr 8 t.rep
def Fa(R:Nat→Prop)(W:World)(C:Array Value)(s:Int×List (Array Value)):Prop:=∃v,C=(#[I s.1,v]:AV)∧Sr R W v 10 s.2
def DK(R:Nat→Prop)(W:World)(C:Array Value)(s:Int×List Nat):Prop:=∃v,C=(#[I s.1,v]:AV)∧Sr R W v 1 (s.2.map qE)
def o5(R:Nat→Prop)(W:World)(C:Array Value)(m:Mm):Prop:=∃sb sk vS vL,C=(#[m.inn,m.out,sb,sk,vS,vL]:AV)∧So R W sb 5 m.bn∧So R W sk 7 m.bk∧Se Fa R W vS 2 m.sh∧Se DK R W vL 2 m.lk
def I9(R:Nat→Prop)(W:World)(C:Array Value)(s:Nat×Nat×Bool):Prop:=C.size=37∧C[0]? =some (.int .i64 s.1)∧C[1]? =some (.int .i64 s.2.1)∧C[36]? =some (.bool s.2.2)∧∃(a n:Int)(m:Bool),C[2]? =some (.int .i64 a)∧C[22]? =some (.bool m)∧C[23]? =some (.int .i64 n)
structure Wo where
 K:Array Value
 m:Mm
 ts:List Tk
 lg:List (Nat×Nat×Bool)
def nH(R:Nat→Prop)(W:World)(X:Array Value)(x:Wo):Prop:=∃CM vT vG,X=x.K++CM++#[vT,vG]∧x.K.size=16∧bB x.K=true∧o5 R W CM x.m∧Se mY R W vT 5 x.ts∧Se I9 R W vG 37 x.lg
theorem cM:jC jD:=fun⟨sb,sk,h1,h2,h3,h4,h5⟩k m=>⟨sb,sk,h1,h2,h3,h4.keep k m,h5.keep k m⟩
theorem fb:jC xq:=fun⟨CV,h1,h2⟩k m=>⟨CV,h1,cM h2 k m⟩
theorem dB:jC mY:=fun⟨a,b,c,h1,h2,h3,h4⟩k m=>⟨a,b,c,h1,h2.keep k m,h3.keep cM k m,h4.keep k m⟩
theorem iH:jC Fa:=fun⟨v,h1,h2⟩k m=>⟨v,h1,h2.keep k m⟩
theorem iK:jC DK:=fun⟨v,h1,h2⟩k m=>⟨v,h1,h2.keep k m⟩
theorem dj:jC o5:=fun⟨a,b,c,d,h1,h2,h3,h4,h5⟩k m=>⟨a,b,c,d,h1,h2.keep k m,h3.keep k m,h4.keep iH k m,h5.keep iK k m⟩
theorem yt:jC I9:=fun h _ _=>h
theorem dd:jC nH:=fun⟨a,b,c,h1,h2,h3,h4,h5,h6⟩k m=>⟨a,b,c,h1,h2,h3,dj h4 k m,h5.keep dB k m,h6.keep yt k m⟩
def xy{α:Type}(P:(Nat→Prop)→World→Array Value→α→Prop):Prop:=∀{R:Nat→Prop}{W:World}{C:Array Value}{x:α},P R W C x→P (fun q=>R q∧q<W.heap.size) W C x
theorem Sr.cut{R:Nat→Prop}{W:World}{v:Value}{n:Nat}{L:List (Array Value)}(h:Sr R W v n L):Sr (fun q=>R q∧q<W.heap.size) W v n L:=⟨h.1,fun q hq=>⟨h.2 q hq,h.1.lt hq⟩⟩
theorem So.cut{R:Nat→Prop}{W:World}{v:Value}{n:Nat}:∀{L:Option (List (Array Value))},So R W v n L→So (fun q=>R q∧q<W.heap.size) W v n L
 |none,h=>h
 |some _,h=>Sr.cut h
theorem Se.cut{α:Type}{P:(Nat→Prop)→World→Array Value→α→Prop}{R:Nat→Prop}{W:World}{v:Value}{n:Nat}{xs:List α}(hP:xy P)(h:Se P R W v n xs):Se P (fun q=>R q∧q<W.heap.size) W v n xs:=by obtain⟨L,h1,h2⟩:=h;exact⟨L,h1.cut,h2.1,fun i C x hC hx=>hP (h2.2 i C x hC hx)⟩
theorem qW:xy jD:=fun⟨sb,sk,h1,h2,h3,h4,h5⟩=>⟨sb,sk,h1,h2,h3,h4.cut,h5.cut⟩
theorem mK:xy mY:=fun⟨a,b,c,h1,h2,h3,h4⟩=>⟨a,b,c,h1,h2.cut,Se.cut (P:=jD) qW h3,h4.cut⟩
theorem Kq:xy Fa:=fun⟨v,h1,h2⟩=>⟨v,h1,h2.cut⟩
theorem Kv:xy DK:=fun⟨v,h1,h2⟩=>⟨v,h1,h2.cut⟩
theorem qO:xy o5:=fun⟨a,b,c,d,h1,h2,h3,h4,h5⟩=>⟨a,b,c,d,h1,h2.cut,h3.cut,Se.cut (P:=Fa) Kq h4,Se.cut (P:=DK) Kv h5⟩
theorem Kl:xy I9:=fun h=>h
theorem mM:xy nH:=fun⟨a,b,c,h1,h2,h3,h4,h5,h6⟩=>⟨a,b,c,h1,h2,h3,qO h4,Se.cut (P:=mY) mK h5,Se.cut (P:=I9) Kl h6⟩
section
variable{R:Nat→Prop}{W:World}{C:Array Value}
theorem ey{C D:Array Value}(h:bB C=true)(k:bB D=true):bB (C++D)=true:=by
 unfold bB at*;rw[Array.toList_append];generalize C.toList=l at*;induction l with
  |nil=>exact k
  |cons v l ih=>rw[List.cons_append,bi]at*;simp only[Bool.and_eq_true]at h⊢;exact⟨h.1,ih h.2⟩
theorem jD.size{v:Vl}(h:jD R W C v):C.size=13:=by obtain⟨_,_,rfl,h,_⟩:=h;simp[vC,h]
theorem jD.ones{v:Vl}(h:jD R W C v):bB C=true:=by obtain⟨_,_,rfl,-,h,h1,h2⟩:=h;obtain⟨a,m,c,rfl⟩:=h1.shape;obtain⟨a,m,c,rfl⟩:=h2.shape;exact ey (ey rfl h) rfl
theorem xq.size{o:Oq}(h:xq R W C o):C.size=21:=by obtain⟨_,rfl,h⟩:=h;simp[oC,h.size]
theorem xq.ones{o:Oq}(h:xq R W C o):bB C=true:=by obtain⟨_,rfl,h⟩:=h;exact ey (ey rfl h.ones) rfl
theorem o5.size{m:Mm}(h:o5 R W C m):C.size=6:=by obtain⟨_,_,_,_,rfl,_⟩:=h;rfl
theorem o5.ones{m:Mm}(h:o5 R W C m):bB C=true:=by obtain⟨_,_,_,_,rfl,h1,h2,h3,h4⟩:=h;obtain⟨_,_,_,rfl⟩:=h1.shape;obtain⟨_,_,_,rfl⟩:=h2.shape;obtain⟨_,_,rfl⟩:=h3.shape;obtain⟨_,_,rfl⟩:=h4.shape;rfl
theorem mY.size{t:Tk}(h:mY R W C t):C.size=5:=by obtain⟨_,_,_,rfl,_⟩:=h;rfl
theorem mY.ones{t:Tk}(h:mY R W C t):bB C=true:=by obtain⟨_,_,_,rfl,⟨⟨_,_,rfl,_⟩,_⟩,h3,⟨⟨_,_,rfl,_⟩,_⟩⟩:=h;obtain⟨_,_,rfl⟩:=h3.shape;rfl
end
end
theorem Gw:(Tryz.prog.info? 143).map (fun i=>(i.zero,i.size,i.bytes))=some (some (.agg #[F,U,U,Z,Z]),5,40):=af
theorem Kc:(Tryz.prog.info? 77).map (fun i=>(i.zero,i.size,i.bytes))=some (some (.agg #[F,U,U,Z,Z,Z,Z]),7,56):=af
theorem GA:(Tryz.prog.info? 355).map (fun i=>(i.zero,i.size,i.bytes))=some (some (.agg #[Z,F,U,U,Z]),5,40):=af
theorem MH{ops:Array Oper}{rest:List Oper}{o:Oper}{a:Act}{w:World}{Q:Exit→Act→World→Prop}(hgd:o.guard=none)(s x:Operand)(ho:o.op= .call {callee:=.builtin .append,args:=#[s,x],argTypes:=#[42,42]})(B:Nat)(v:Value)(L M:List (Array Value))(hs:a.eval s=v)(hown:aV w B 143 5 v L)(ad:Addr)(m k:Nat)(hx:a.eval x= .slice (some ad) m k)(hM:Sl w (E (some ad) m k) 5 M)(hlen:L.length+M.length≤200000)(hbase:B≤w.heap.size)(h:∀v' w',aV w' B 143 5 v' (L++M)→Below B w w'→(v'= .slice none 0 0↔v= .slice none 0 0∧M=[])→wpList Tryz.prog ops Q rest (a.put o.dst v') w'):wpList Tryz.prog ops Q (o::rest) a w:=by obtain⟨i0,hi,hz0,hz1,hz2⟩:=info_parts Gw;exact eK hgd s x 42 ho B 143 i0 (.agg #[F,U,U,Z,Z]) 5 40 Tryz.underlying42 hi hz0 hz1 hz2 rfl az v L M hs hown ad m k hx hM aa aa hbase h
theorem O8{ops:Array Oper}{rest:List Oper}{o:Oper}{a:Act}{w:World}{Q:Exit→Act→World→Prop}(hgd:o.guard=none)(s x:Operand)(ho:o.op= .call {callee:=.builtin .append,args:=#[s,x],argTypes:=#[43,43]})(B:Nat)(v:Value)(L M:List (Array Value))(hs:a.eval s=v)(hown:aV w B 77 7 v L)(ad:Addr)(m k:Nat)(hx:a.eval x= .slice (some ad) m k)(hM:Sl w (E (some ad) m k) 7 M)(hlen:L.length+M.length≤200000)(hbase:B≤w.heap.size)(h:∀v' w',aV w' B 77 7 v' (L++M)→Below B w w'→(v'= .slice none 0 0↔v= .slice none 0 0∧M=[])→wpList Tryz.prog ops Q rest (a.put o.dst v') w'):wpList Tryz.prog ops Q (o::rest) a w:=by obtain⟨i0,hi,hz0,hz1,hz2⟩:=info_parts Kc;exact eK hgd s x 43 ho B 77 i0 (.agg #[F,U,U,Z,Z,Z,Z]) 7 56 Tryz.underlying43 hi hz0 hz1 hz2 rfl az v L M hs hown ad m k hx hM aa aa hbase h
theorem FH{ops:Array Oper}{rest:List Oper}{o:Oper}{a:Act}{w:World}{Q:Exit→Act→World→Prop}(hgd:o.guard=none)(s x:Operand)(ho:o.op= .call {callee:=.builtin .append,args:=#[s,x],argTypes:=#[351,351]})(B:Nat)(v:Value)(L M:List (Array Value))(hs:a.eval s=v)(hown:aV w B 355 5 v L)(ad:Addr)(m k:Nat)(hx:a.eval x= .slice (some ad) m k)(hM:Sl w (E (some ad) m k) 5 M)(hlen:L.length+M.length≤200000)(hbase:B≤w.heap.size)(h:∀v' w',aV w' B 355 5 v' (L++M)→Below B w w'→(v'= .slice none 0 0↔v= .slice none 0 0∧M=[])→wpList Tryz.prog ops Q rest (a.put o.dst v') w'):wpList Tryz.prog ops Q (o::rest) a w:=by obtain⟨i0,hi,hz0,hz1,hz2⟩:=info_parts GA;exact eK hgd s x 351 ho B 355 i0 (.agg #[Z,F,U,U,Z]) 5 40 Tryz.underlying351 hi hz0 hz1 hz2 rfl az v L M hs hown ad m k hx hM aa aa hbase h
theorem JM(v:Value)(L:List (Array Value))(w:World)(h:Sl w v 5 L)(hl:L.length≤100000):Calls Tryz.prog 38 #[v] w fun e w'=>∃v',e= .returned v'∧aV w' w.heap.size 143 5 v' L∧Below w.heap.size w w':=by
 have qT:∀(w:World)(a:Option Addr)(n c n' c':Nat),(binOp .eql 42 (E a n c) (E none n' c')).run Tryz.prog w= .ok a.isNone w:=fun w a n c n' c'=>Lib.run_eql_slice_nil (P:=Tryz.prog) w 42 143 a n c n' c' Tryz.underlying42;have hb0:=(Below.refl w.heap.size w).alloc (Nat.le_refl _) (.cells #[] 143);have hd:=Lib.hid (h.below hb0);have ho:=Lib.hid (dW w w.heap.size 143 5 _ rfl (Nat.le_refl _));have hz:aV w w.heap.size 143 5 V []:=aV.nil _ _ _ _;obtain⟨a,cap,rfl,h1,h2,h3⟩:=h;rcases h3 with⟨rfl,rfl⟩|⟨g,o,rfl,hg,h4⟩;·go_enter Tryz.func38,Tryz.ntmps38;go_wp2;go_ret;exact⟨_,rfl,hz,Below.refl _ _⟩
 ·have HB:=Lib.hid hb0;clear h4 hz hb0;go_enter Tryz.func38,Tryz.ntmps38;go_wp2_with(first|(at_builtin;refine MH rfl (.tmp 5) (.tmp 6) rfl w.heap.size _ [] L rfl ho.out _ _ _ rfl hd.out aF ay ?_;intro v' w1 hown hbel hnil));go_ret;exact⟨_,rfl,jb,HB.out.trans hbel⟩
theorem B8(v:Value)(L:List (Array Value))(w:World)(h:Sl w v 7 L)(hl:L.length≤100000):Calls Tryz.prog 39 #[v] w fun e w'=>∃v',e= .returned v'∧aV w' w.heap.size 77 7 v' L∧Below w.heap.size w w':=by
 have qT:∀(w:World)(a:Option Addr)(n c n' c':Nat),(binOp .eql 43 (E a n c) (E none n' c')).run Tryz.prog w= .ok a.isNone w:=fun w a n c n' c'=>Lib.run_eql_slice_nil (P:=Tryz.prog) w 43 77 a n c n' c' Tryz.underlying43;have hb0:=(Below.refl w.heap.size w).alloc (Nat.le_refl _) (.cells #[] 77);have hd:=Lib.hid (h.below hb0);have ho:=Lib.hid (dW w w.heap.size 77 7 _ rfl (Nat.le_refl _));have hz:aV w w.heap.size 77 7 V []:=aV.nil _ _ _ _;obtain⟨a,cap,rfl,h1,h2,h3⟩:=h;rcases h3 with⟨rfl,rfl⟩|⟨g,o,rfl,hg,h4⟩;·go_enter Tryz.func39,Tryz.ntmps39;go_wp2;go_ret;exact⟨_,rfl,hz,Below.refl _ _⟩
 ·have HB:=Lib.hid hb0;clear h4 hz hb0;go_enter Tryz.func39,Tryz.ntmps39;go_wp2_with(first|(at_builtin;refine O8 rfl (.tmp 5) (.tmp 6) rfl w.heap.size _ [] L rfl ho.out _ _ _ rfl hd.out aF ay ?_;intro v' w1 hown hbel hnil));go_ret;exact⟨_,rfl,jb,HB.out.trans hbel⟩
theorem yd(v:Value)(L:List (Array Value))(w:World)(h:Sl w v 5 L)(hl:L.length≤100000):Calls Tryz.prog 283 #[v] w fun e w'=>∃v',e= .returned v'∧aV w' w.heap.size 355 5 v' L∧Below w.heap.size w w':=by
 have qT:∀(w:World)(a:Option Addr)(n c n' c':Nat),(binOp .eql 351 (E a n c) (E none n' c')).run Tryz.prog w= .ok a.isNone w:=fun w a n c n' c'=>Lib.run_eql_slice_nil (P:=Tryz.prog) w 351 355 a n c n' c' Tryz.underlying351;have hb0:=(Below.refl w.heap.size w).alloc (Nat.le_refl _) (.cells #[] 355);have hd:=Lib.hid (h.below hb0);have ho:=Lib.hid (dW w w.heap.size 355 5 _ rfl (Nat.le_refl _));have hz:aV w w.heap.size 355 5 V []:=aV.nil _ _ _ _;obtain⟨a,cap,rfl,h1,h2,h3⟩:=h;rcases h3 with⟨rfl,rfl⟩|⟨g,o,rfl,hg,h4⟩;·go_enter Tryz.func283,Tryz.ntmps283;go_wp2;go_ret;exact⟨_,rfl,hz,Below.refl _ _⟩
 ·have HB:=Lib.hid hb0;clear h4 hz hb0;go_enter Tryz.func283,Tryz.ntmps283;go_wp2_with(first|(at_builtin;refine FH rfl (.tmp 5) (.tmp 6) rfl w.heap.size _ [] L rfl ho.out _ _ _ rfl hd.out aF ay ?_;intro v' w1 hown hbel hnil));go_ret;exact⟨_,rfl,jb,HB.out.trans hbel⟩
theorem lz(w:World):Calls Tryz.prog 38 #[V] w fun e w'=>e= .returned V∧Below w.heap.size w w':=by have qT:∀(w:World)(a:Option Addr)(n c n' c':Nat),(binOp .eql 42 (E a n c) (E none n' c')).run Tryz.prog w= .ok a.isNone w:=fun w a n c n' c'=>Lib.run_eql_slice_nil (P:=Tryz.prog) w 42 _ a n c n' c' Tryz.underlying42;go_enter Tryz.func38,Tryz.ntmps38;go_wp2;go_ret;exact⟨rfl,Below.refl _ _⟩
theorem ye{R:Nat→Prop}(v:Value)(L:Option (List (Array Value)))(hl:∀l,L=some l→l.length≤100000)(w:World)(h:So R w v 5 L):Calls Tryz.prog 38 #[v] w fun e w'=>∃v',e= .returned v'∧So (w.heap.size≤·) w' v' 5 L∧Below w.heap.size w w':=by
 cases L with
  |none=>subst h;exact(lz w).mono fun e w' h=>⟨_,h.1,rfl,h.2⟩
  |some l=>exact(JM v l w h.1 (hl l rfl)).mono fun e w'⟨v',h1,h2,h3⟩=>⟨v',h1,⟨h2.sl,fun q hq=>(h2.base hq).1⟩,h3⟩
theorem lA(w:World):Calls Tryz.prog 39 #[V] w fun e w'=>e= .returned V∧Below w.heap.size w w':=by have qT:∀(w:World)(a:Option Addr)(n c n' c':Nat),(binOp .eql 43 (E a n c) (E none n' c')).run Tryz.prog w= .ok a.isNone w:=fun w a n c n' c'=>Lib.run_eql_slice_nil (P:=Tryz.prog) w 43 _ a n c n' c' Tryz.underlying43;go_enter Tryz.func39,Tryz.ntmps39;go_wp2;go_ret;exact⟨rfl,Below.refl _ _⟩
theorem rx{R:Nat→Prop}(v:Value)(L:Option (List (Array Value)))(hl:∀l,L=some l→l.length≤100000)(w:World)(h:So R w v 7 L):Calls Tryz.prog 39 #[v] w fun e w'=>∃v',e= .returned v'∧So (w.heap.size≤·) w' v' 7 L∧Below w.heap.size w w':=by
 cases L with
  |none=>subst h;exact(lA w).mono fun e w' h=>⟨_,h.1,rfl,h.2⟩
  |some l=>exact(B8 v l w h.1 (hl l rfl)).mono fun e w'⟨v',h1,h2,h3⟩=>⟨v',h1,⟨h2.sl,fun q hq=>(h2.base hq).1⟩,h3⟩
end Go.Proofs.YtnncjbkepakgpaaGreat
