/- MIXING. -/
import Derived.Test.YtnncjbkepakgpaaGreatA12
import Derived.Test.YtnncjbkepakgpaaGreatA09
import Derived.Laws.BitsAllLaws
namespace Go.Proofs.YtnncjbkepakgpaaGreat
open Go.RowKit Qv
set_option linter.unusedVariables false
set_option linter.unusedSimpArgs false
set_option maxRecDepth 100000
set_option maxHeartbeats 4000000
attribute[local go_sem↓]bv bj
attribute[local go_sem]bN bz dC
open Plain
theorem DH(X Yx:BitVec 64):bits .xor .u64 (toI X) (toI Yx)=toI (X^^^Yx):=by unfold toI;have e:bits .xor .u64 (X.toNat:Int) (Yx.toNat:Int)=IntKind.u64.wrap ((BitVec.ofInt 64 (X.toNat:Int)^^^BitVec.ofInt 64 (Yx.toNat:Int)).toNat:Int):=rfl;rw[e,BitVec.ofInt_natCast,BitVec.ofInt_natCast,BitVec.ofNat_toNat,BitVec.ofNat_toNat,IntKind.wrap_u64];simp;have:=(X^^^Yx).isLt;simp at this;omega
theorem N4(X Yx:BitVec 64):bits .or .u64 (toI X) (toI Yx)=toI (X|||Yx):=by unfold toI;have e:bits .or .u64 (X.toNat:Int) (Yx.toNat:Int)=IntKind.u64.wrap ((BitVec.ofInt 64 (X.toNat:Int)|||BitVec.ofInt 64 (Yx.toNat:Int)).toNat:Int):=rfl;rw[e,BitVec.ofInt_natCast,BitVec.ofInt_natCast,BitVec.ofNat_toNat,BitVec.ofNat_toNat,IntKind.wrap_u64];simp;have:=(X|||Yx).isLt;simp at this;omega
theorem RF(X:BitVec 64):toI X/(1073741824:Int)=toI (X>>>30):=toI_shr X 30
theorem RE(X:BitVec 64):toI X/(134217728:Int)=toI (X>>>27):=toI_shr X 27
theorem RG(X:BitVec 64):toI X/(2147483648:Int)=toI (X>>>31):=toI_shr X 31
theorem RH(X:BitVec 64):toI X/(144115188075855872:Int)=toI (X>>>57):=toI_shr X 57
theorem m1(X:BitVec 64):IntKind.u64.wrap (toI X*(13787848793156543929:Int))=toI (X*13787848793156543929#64):=(IntKind.wrap_u64 _).trans (toI_mul X _ _ az)
theorem m2(X:BitVec 64):IntKind.u64.wrap (toI X*(10723151780598845931:Int))=toI (X*10723151780598845931#64):=(IntKind.wrap_u64 _).trans (toI_mul X _ _ az)
theorem a1(X:BitVec 64):IntKind.u64.wrap (toI X+(11400714819323198485:Int))=toI (X+11400714819323198485#64):=(IntKind.wrap_u64 _).trans (toI_add X _ _ az)
theorem s7(X:BitVec 64):IntKind.u64.wrap (toI X*(128:Int))=toI (X<<<7):=(IntKind.wrap_u64 _).trans (toI_shl X)
theorem a7(X:BitVec 64):IntKind.u64.wrap (toI (X<<<7)+toI (X>>>57))=toI (rotB X):=by rw[IntKind.wrap_u64,toI_add _ _ _ rfl,rot_add]
theorem wP(X:BitVec 64)(w:World):Calls Tryz.prog 235 #[J (toI X)] w fun e w'=>e= .returned (J (toI (oneB X)))∧w=w':=by go_enter Tryz.func235,Tryz.ntmps235;go_wp2;go_ret;exact⟨fU (by simp only[DH,RF,RE,RG,m1,m2];rfl),rfl⟩
theorem Lk(X:BitVec 64)(w:World):Calls Tryz.prog 236 #[J (toI X),I 7] w fun e w'=>e= .returned (J (toI (rotB X)))∧w=w':=by have h4:bits .and .u64 7 63=7:=az;go_enter Tryz.func236,Tryz.ntmps236;go_wp2;go_ret;exact⟨fU (by simp only[s7,RH,N4];rfl),rfl⟩
theorem Hy{K:BitVec 64}{L:List (BitVec 64)}{k:Nat}(h:k<L.length):ofB K (L.take (k+1))=stepB (ofB K (L.take k)) L[k]:=by rw[List.take_succ_eq_append_getElem h,ofB_snoc]
theorem wO(K:BitVec 64)(L:List (BitVec 64))(b off cap:Nat)(w:World)(hm:L.length≤maxLen)(hc:∀k(h:k<L.length),w.cell? ⟨b,off+k,none⟩=some (.int .u64 (toI L[k]))):Calls Tryz.prog 178 #[J (toI K),E (some ⟨b,off,none⟩) L.length cap] w fun e w'=>e= .returned (J (toI (ofB K L)))∧w=w':=by
 unfold maxLen at hm;have HC:=Lib.hid hc;clear hc;go_enter Tryz.func178,Tryz.ntmps178;go_wp2_with(go_at_call 235;rw[a1];refine(wP _ _).mono ?_;rintro e w'⟨rfl,rfl⟩);go_loop[5,13](fun vh vi=>∃k:Nat,k≤L.length∧vh= .int .u64 (toI (ofB K (L.take k)))∧vi= .int .i64 k)(fun _ i=>L.length-(intOf i).toNat);case atStart=>exact⟨0,Nat.zero_le _,rfl,rfl⟩
 case round=>
  obtain⟨k,hk,rfl,rfl⟩:=hrel;by_cases hlt:k<L.length;·
   have hcell:=HC.out k hlt;have Ex:=Lib.hid (Hy (K:=K) hlt);go_wp2_with(first|(go_at_call 236;refine(Lk _ _).mono ?_;rintro e w'⟨rfl,rfl⟩)|(go_at_call 235;rw[a1];refine(wP _ _).mono ?_;rintro e w'⟨rfl,rfl⟩)|(go_at_call 235;rw[DH];refine(wP _ _).mono ?_;rintro e w'⟨rfl,rfl⟩));go_round;case rel=>exact⟨k+1,aa,by rw[Ex.out];rfl,bD⟩
   case measure=>simp[intOf];omega
  ·go_wp2;go_ret;exact⟨fU (by rw[List.take_of_length_le aa]),rfl⟩
def gt(h:BitVec 64)(n:Int):Int:=if n<1∨2147483648<n then 0 else toI h/4294967296*n/4294967296
theorem nM(h:BitVec 64)(n:Int)(c1:¬n<1)(c2:¬2147483648<n):0≤toI h/4294967296*n∧toI h/4294967296*n<9223372036854775808:=by have h0:=toI_lo h;have h1:=toI_hi h;have q0:0≤toI h/4294967296:=aa;have q1:toI h/4294967296≤4294967295:=aa;have m1:toI h/4294967296*n≤4294967295*n:=Int.mul_le_mul_of_nonneg_right q1 aa;exact⟨Int.mul_nonneg q0 aa,aa⟩
theorem xI(h:BitVec 64)(n:Int)(c1:¬n<1)(c2:¬2147483648<n):wrap64 (IntKind.u64.wrap (toI h/4294967296*n)/4294967296)=gt h n:=by obtain⟨m0,m1⟩:=nM h n c1 c2;rw[IntKind.wrap_u64,Int.emod_eq_of_lt m0 aa,IntWalk.wrap64_in _ ⟨aa,aa⟩];unfold gt;rw[if_neg aa]
theorem uz(h:BitVec 64)(n:Int)(w:World):Calls Tryz.prog 124 #[J (toI h),n] w fun e w'=>e= .returned (I (gt h n))∧w=w':=by
 have h0:=toI_lo h;have h1:=toI_hi h;by_cases c1:n<1;·have Ex:Hid (0=gt h n):=Lib.hid (by unfold gt;rw[if_pos (Or.inl c1)]);go_enter Tryz.func124,Tryz.ntmps124;go_wp2;go_ret;exact⟨fU Ex.out,rfl⟩
 ·by_cases c2:2147483648<n;·have Ex:Hid (0=gt h n):=Lib.hid (by unfold gt;rw[if_pos (Or.inr c2)]);go_enter Tryz.func124,Tryz.ntmps124;go_wp2;go_ret;exact⟨fU Ex.out,rfl⟩
  ·go_enter Tryz.func124,Tryz.ntmps124;go_wp2;go_ret;exact⟨fU (xI h n aa aa),rfl⟩
theorem ux(h:BitVec 64)(n:Int)(c1:1≤n)(c2:n≤2147483648):gt h n=toI h/4294967296*n/4294967296:=by unfold gt;rw[if_neg aa]
theorem uy(h:BitVec 64)(n:Int)(c1:1≤n)(c2:n≤2147483648):0≤gt h n:=by rw[ux h n c1 c2];have:=(nM h n aa aa).1;omega
theorem uw(h:BitVec 64)(n:Int)(c1:1≤n)(c2:n≤2147483648):gt h n<n:=by rw[ux h n c1 c2];have h1:=toI_hi h;have q1:toI h/4294967296≤4294967295:=aa;have m1:toI h/4294967296*n≤4294967295*n:=Int.mul_le_mul_of_nonneg_right q1 aa;omega
end Go.Proofs.YtnncjbkepakgpaaGreat
