/- THE PLAIN LAWS of mixing (layer 10): no Go in sight: numbers of 64 bits; unlike numbers are mixed to unlike ones. -/
import Derived.Test.YtnncjbkepakgpaaGreatA01
set_option linter.unusedVariables false
set_option linter.unusedSimpArgs false
set_option maxRecDepth 100000
namespace Go.Proofs.YtnncjbkepakgpaaGreat.Plain
def toI(X:BitVec 64):Int:=X.toNat
def oneB(X:BitVec 64):BitVec 64:=let x1:=(X^^^X>>>30)*13787848793156543929#64;let x2:=(x1^^^x1>>>27)*10723151780598845931#64;x2^^^x2>>>31
def rotB(X:BitVec 64):BitVec 64:=X<<<7|||X>>>57
def stepB(h x:BitVec 64):BitVec 64:=oneB (rotB h^^^oneB (x+11400714819323198485#64))
def ofB(key:BitVec 64)(l:List (BitVec 64)):BitVec 64:=l.foldl stepB (oneB (key+11400714819323198485#64))
theorem ofB_snoc(key:BitVec 64)(l:List (BitVec 64))(x:BitVec 64):ofB key (l++[x])=stepB (ofB key l) x:=by simp[ofB]
theorem toI_lo(X:BitVec 64):0≤toI X:=by unfold toI;omega
theorem toI_hi(X:BitVec 64):toI X<18446744073709551616:=by unfold toI;have:=X.isLt;omega
theorem toI_ofInt{z:Int}(h0:0≤z)(h1:z<18446744073709551616):toI (BitVec.ofInt 64 z)=z:=by unfold toI;rw[BitVec.toNat_ofInt];have:z%(2^64:Nat)=z:=Int.emod_eq_of_lt h0 (by simpa using h1);rw[this];omega
theorem toI_shr(X:BitVec 64)(s:Nat):toI X/2^s=toI (X>>>s):=by unfold toI;rw[BitVec.toNat_ushiftRight,Nat.shiftRight_eq_div_pow];simp
theorem toI_mul(X:BitVec 64)(c:Int)(C:BitVec 64)(hc:c=toI C):toI X*c%18446744073709551616=toI (X*C):=by subst hc;unfold toI;rw[BitVec.toNat_mul];simp
theorem toI_add(X:BitVec 64)(c:Int)(C:BitVec 64)(hc:c=toI C):(toI X+c)%18446744073709551616=toI (X+C):=by subst hc;unfold toI;rw[BitVec.toNat_add];simp
theorem toI_shl(X:BitVec 64):toI X*128%18446744073709551616=toI (X<<<7):=by unfold toI;rw[BitVec.toNat_shiftLeft,Nat.shiftLeft_eq];simp
theorem rot_disjoint(X:BitVec 64):X<<<7&&&X>>>57=0#64:=by
 apply BitVec.eq_of_getLsbD_eq;intro i hi;simp only[BitVec.getLsbD_and,BitVec.getLsbD_shiftLeft,BitVec.getLsbD_ushiftRight];by_cases h:i<7;·simp[h]
 ·have:X.getLsbD (57+i)=false:=BitVec.getLsbD_of_ge X _ aa;simp[this]
theorem rot_add(X:BitVec 64):X<<<7+X>>>57=rotB X:=by unfold rotB;exact BitVec.add_eq_or_of_and_eq_zero _ _ (rot_disjoint X)
end Go.Proofs.YtnncjbkepakgpaaGreat.Plain
