/- THE SHORT FORMS of this proof: values, and closing steps. -/
import Derived.WalkKit
import Derived.ProofKit
import Derived.Lib.Hide
import Derived.Lib.MinMax
namespace Go.Proofs.YtnncjbkepakgpaaGreat
open Go.RowKit
set_option linter.unusedVariables false
set_option linter.unusedSimpArgs false
set_option maxRecDepth 100000
inductive Qv|Z|U|F|Y|V|I(x:Int)|J(x:Int)|E(a:Option Addr)(b c:Nat)|G(a b c:Nat)|H(a b:Nat)
open Qv
instance :CoeDep Qv Z Value:=⟨.int .i64 0⟩
instance :CoeDep Qv U Value:=⟨.int .u64 0⟩
instance :CoeDep Qv F Value:=⟨.bool false⟩
instance :CoeDep Qv Y Value:=⟨.bool true⟩
instance :CoeDep Qv V Value:=⟨.slice none 0 0⟩
instance (x:Int):CoeDep Qv (I x) Value:=⟨.int .i64 x⟩
instance (x:Int):CoeDep Qv (J x) Value:=⟨.int .u64 x⟩
instance (a:Option Addr)(b c:Nat):CoeDep Qv (E a b c) Value:=⟨.slice a b c⟩
instance (a b c:Nat):CoeDep Qv (G a b c) Value:=⟨.slice (some ⟨a,0,none⟩) b c⟩
instance (a b:Nat):CoeDep Qv (H a b) Value:=⟨.pointer (some ⟨a,b,none⟩)⟩
instance :Coe Int Value:=⟨fun x=>.int .i64 x⟩
instance :Coe Nat Value:=⟨fun x=>.int .i64 x⟩
instance :Coe Bool Value:=⟨fun x=>.bool x⟩
abbrev AV:=Array Value
theorem aa{p:Prop}(h:p:=by omega):p:=h
theorem af{p:Prop}(h:p:=by kernel_rfl):p:=h
theorem aF{p:Prop}(h:p:=by simp;omega):p:=h
theorem az{p:Prop}(h:p:=by decide):p:=h
theorem bo{p:Prop}(h:p:=by cases d<;>exact h):p:=h
theorem ay{p:Prop}(h:p:=by simp):p:=h
theorem pc{p:Prop}(h:p:=by rw[Nat.zero_add];match q,hv with|0,h=>exact h|1,h=>exact h|2,h=>exact h|3,h=>exact h):p:=h
theorem eD{p:Prop}(h:p:=by rw[IntKind.wrap_i64];omega):p:=h
theorem dq{p:Prop}(h:p:=by simp[go_sem]):p:=h
theorem ig{p:Prop}(h:p:=by rw[←hn.out];omega):p:=h
theorem bG{p:Prop}(h:p:=by go_simp):p:=h
theorem ix{p:Prop}(h:p:=by rw[World.size_alloc];omega):p:=h
theorem fZ{p:Prop}(h:p:=by unfold maxLen;omega):p:=h
theorem bD{p:Prop}(h:p:=by go_num):p:=h
theorem et{p:Prop}(h:p:=by assumption):p:=h
theorem gu{p:Prop}(h:p:=by subst hWG;go_simp):p:=h
theorem mR{p:Prop}(h:p:=by rw[List.getElem?_map,hx];rfl):p:=h
theorem BS{p:Prop}(h:p:=by have:Pm.kOf c<16:=Nat.mod_lt _ (by decide);simp only[aM,Ek];omega):p:=h
theorem gB{p:Prop}(h:p:=by simpa using ho):p:=h
theorem nQ{p:Prop}(h:p:=by rw[List.getElem?_map,hy];rfl):p:=h
theorem jb{p:Prop}(h:p:=by simpa using hown):p:=h
theorem jc{p:Prop}(h:p:=by simp[go_sem, *]):p:=h
theorem LY{p:Prop}(h:p:=by first|exact Nat.le_refl _|(simp;omega)|(refine Nat.le_trans hk2.out.size ?_;simp)|exact hk2.out.size):p:=h
theorem pF{p:Prop}(h:p:=by first|rfl|(simp;omega)):p:=h
theorem LZ{p:Prop}(h:p:=by rw[List.length_map];have:=hal.out;have:=hnp.out;have:=hnk.out;simp only[List.length_singleton];omega):p:=h
theorem lu{p:Prop}(h:p:=by have:=HG.out;omega):p:=h
theorem L0{p:Prop}(h:p:=by have h:=And.intro hx.out hp.out;rw[List.take_of_length_le (by rw[←hn.out];omega)]at h;exact h):p:=h
theorem pG{p:Prop}(h:p:=by rintro(h|h)<;>omega):p:=h
theorem lw{p:Prop}(h:p:=by simpa using hi):p:=h
theorem L3{p:Prop}(h:p:=by first|exact HO2.out|exact HO2.out.below ((Below.refl _ _).alloc (Nat.le_refl _) _)):p:=h
theorem FW{p:Prop}(h:p:=by rcases hq with h|h;exact .inl h.1;exact .inr (by omega)):p:=h
theorem pH{p:Prop}(h:p:=by rw[jj];omega):p:=h
theorem FX{p:Prop}(h:p:=by rw[List.getElem?_map,List.getElem?_eq_getElem hkl];rfl):p:=h
theorem iy{p:Prop}(h:p:=by cases e;rfl):p:=h
theorem lx{p:Prop}(h:p:=by simpa using hj):p:=h
theorem uA{p:Prop}(h:p:=by simp only[Tn.sz]at hs;omega):p:=h
theorem pI{p:Prop}(h:p:=by have:=hnp.out;omega):p:=h
theorem uB{p:Prop}(h:p:=by rw[IntKind.wrap_u64];omega):p:=h
theorem L4{p:Prop}(h:p:=by have h:=hx.out;rw[List.take_of_length_le (by rw[←hn.out];omega)]at h;exact h):p:=h
theorem L5{p:Prop}(h:p:=by repeat'(first|exact d2|(with_reducible refine ai ?_ ?_ _)|omega)):p:=h
theorem xM{p:Prop}(h:p:=by rw[List.getElem?_map,hy0];rfl):p:=h
theorem uC{p:Prop}(h:p:=by simpa[dH]using hK a h):p:=h
theorem L6{p:Prop}(h:p:=by have:=C.out.c.u.size;have:=hu3.size;have:=hu2.size;have:=hu1.size;omega):p:=h
theorem pJ{p:Prop}(h:p:=by rw[cX];omega):p:=h
theorem xN{p:Prop}(h:p:=by rw[List.length_take];omega):p:=h
theorem FY{p:Prop}(h:p:=by rw[(dJ k).2.2.2.2.2.2.2.1 g hg];exact h.own):p:=h
theorem BT{p:Prop}(h:p:=by unfold Addr.add;split<;>simp_all):p:=h
theorem L7{p:Prop}(h:p:=by rw[←he.out,List.drop_eq_nil_of_le (by rw[←hn.out];omega)];rfl):p:=h
theorem jF{p:Prop}(h:p:=by simp[flat]):p:=h
theorem BU{p:Prop}(h:p:=by rw[x6 _ _ (by simp)];simp[go_sem]):p:=h
theorem uD{p:Prop}(h:p:=by have:=hW.size;omega):p:=h
theorem BV{p:Prop}(h:p:=by unfold Pm.tOf;split<;>omega):p:=h
theorem uE{p:Prop}(h:p:=by have:=hd.out;omega):p:=h
theorem xO{p:Prop}(h:p:=by rw[iX];exact h):p:=h
theorem rm{p:Prop}(h:p:=by rw[e1.out,e2.out]):p:=h
theorem L8{p:Prop}(h:p:=by simp only[bW,bi,bF,hCz1,Bool.and_self]):p:=h
theorem FZ{p:Prop}(h:p:=by simp only[List.length_singleton];omega):p:=h
theorem BW{p:Prop}(h:p:=by rw[e2,List.append_assoc];rfl):p:=h
theorem BX{p:Prop}(h:p:=by rw[hwq];exact HCell.out _ hr):p:=h
theorem F0{p:Prop}(h:p:=by(try simp only[bQ]at h);omega):p:=h
theorem xP{p:Prop}(h:p:=by rw[h0]at hr;cases hr):p:=h
theorem rn{p:Prop}(h:p:=by simpa using h):p:=h
theorem F1{p:Prop}(h:p:=by rw[List.length_append,iU];rfl):p:=h
theorem xQ{p:Prop}(h:p:=by simp[size_madeCells]):p:=h
theorem F2{p:Prop}(h:p:=by rw[(dJ k).2.1 g hg];exact h.row):p:=h
theorem xR{p:Prop}(h:p:=by have:=hnk.out;omega):p:=h
theorem F3{p:Prop}(h:p:=by intro e;simp at e;simp[e]at hkl):p:=h
theorem F4{p:Prop}(h:p:=by rw[(MapKept.heap_alloc w3 _).1]):p:=h
theorem uF{p:Prop}(h:p:=by simp<;>omega):p:=h
theorem xS{p:Prop}(h:p:=by have:=ok.hl;omega):p:=h
theorem BY{p:Prop}(h:p:=by show(5:Int)≠6;decide):p:=h
theorem nS{p:Prop}(h:p:=by simp[hk]):p:=h
theorem BZ{p:Prop}(h:p:=by first|rfl|trivial):p:=h
theorem F5{p:Prop}(h:p:=by rw[List.getElem?_map,hz];rfl):p:=h
theorem F6{p:Prop}(h:p:=by(try rw[hCGh.out]);simp;omega):p:=h
theorem uG{p:Prop}(h:p:=by unfold ZQ;omega):p:=h
theorem F7{p:Prop}(h:p:=by have:=hx6.out.2.2.2.1;omega):p:=h
theorem uH{p:Prop}(h:p:=by simpa using hc):p:=h
theorem ly{p:Prop}(h:p:=by cases h):p:=h
theorem B1{p:Prop}(h:p:=by rw[h]at hr;cases hr):p:=h
theorem B3{p:Prop}(h:p:=by rw[hR1]at h;exact h.2):p:=h
theorem xT{p:Prop}(h:p:=by rw[hb];exact cb):p:=h
theorem B4{p:Prop}(h:p:=by have:=hcc.out;omega):p:=h
theorem xU{p:Prop}(h:p:=by simpa using h2):p:=h
theorem gQ{p:Prop}(h:p:=by rfl):p:=h
theorem xV{p:Prop}(h:p:=by simpa using h3):p:=h
theorem ro{p:Prop}(h:p:=by rw[e];rfl):p:=h
theorem xW{p:Prop}(h:p:=by rw[hK];decide):p:=h
end Go.Proofs.YtnncjbkepakgpaaGreat
