import Derived.Test.YtagihpbpblnnoaaGreatZ02
import Derived.Test.YtagihpbpblnnoaaGreatZ04
import Derived.Test.YtagihpbpblnnoaaGreatZ05
import Derived.Test.YtagihpbpblnnoaaGreatZ00
set_option linter.all false
namespace AH
open Go Go.Proofs Ho
set_option maxRecDepth 10000
theorem It(t:TypeId)(k:IntKind)(a b:Int):eB Tryz.prog .shl t (.int .u64 a) (.int k b)=mQ .shl .u64 a b:=rfl
theorem Iu(t:TypeId)(k:IntKind)(a b:Int):eB Tryz.prog .shr t (.int .u64 a) (.int k b)=mQ .shr .u64 a b:=rfl
theorem Ir(t:TypeId)(k:IntKind)(a b:Int):eB Tryz.prog .shl t (.int .i64 a) (.int k b)=mQ .shl .i64 a b:=rfl
theorem wz(I:af)(n lo hi:Int):Fn Tryz.prog 110 [.int .i64 n,.int .i64 lo,.int .i64 hi] I fun x R=>x= .bool (decide (lo≤n)&&decide (n≤hi))∧R=I:=by
 refine ay aZ mixed Tryz.func110 (by kernel_rfl) rfl (by kernel_rfl) bE ?_
 by_cases h1:lo≤n<;>simp[go_sem,bL,h1]
@[go_sem] def Wn:=fun(I:af) n lo hi (aA:U→af→Prop)=>ar (k:=aA) (wz I n lo hi)
@[go_sem] def Wm:=fun(I:af) (b_:Bool) (n lo hi:Int) (aA:U→af→Prop)=>aJ (k:=aA) b_ fun aY=>wz I n lo hi
theorem zu(I:af)(n m:Int):Fn Tryz.prog 180 [.int .i64 n,.int .i64 m] I fun x R=>x= .int .i64 (bU n m)∧R=I:=by
 refine ay aZ mixed Tryz.func180 (by kernel_rfl) rfl (by kernel_rfl) bE ?_
 simp[go_sem,bL,n_,n9,bU]
 omega
@[go_sem] def Xl:=fun(I:af) n m (aA:U→af→Prop)=>ar (k:=aA) (zu I n m)
@[go_sem] def Xk:=fun(I:af) (b_:Bool) (n m:Int) (aA:U→af→Prop)=>aJ (k:=aA) b_ fun aY=>zu I n m
theorem eM{n m:Int}(h:0≤m):0≤bU n m∧bU n m≤m:=by unfold bU;omega
theorem p_:IntKind.u64.bits=64:=rfl
theorem Ra(a b:Int)(ha:0≤a∧a<4294967296)(hb:0≤b∧b<4294967296):
 IntKind.u64.wrap ((BitVec.ofInt IntKind.u64.bits (a*4294967296) ||| BitVec.ofInt IntKind.u64.bits b).toNat)=a*4294967296+b:=by
 obtain⟨x,rfl⟩:=Int.eq_ofNat_of_zero_le ha.1
 obtain⟨y,rfl⟩:=Int.eq_ofNat_of_zero_le hb.1
 have e:((x:Int)*4294967296)=((x*4294967296:Nat):Int):=J
 rw[e,BitVec.ofInt_natCast,BitVec.ofInt_natCast,BitVec.toNat_or,BitVec.toNat_ofNat,BitVec.toNat_ofNat,p_,Nat.mod_eq_of_lt J,Nat.mod_eq_of_lt J]
 have:x*4294967296 ||| y=x*4294967296+y:=by
  have h:=Nat.two_pow_add_eq_or_of_lt (i:=32) (b:=y) J x
  rw[show(2:Nat)^32=4294967296 by decide]at h
  rw[Nat.mul_comm x,←h]
 rw[this,wrap_u64 J]
 omega
theorem Mh(a:Int)(ha:ci a):IntKind.u64.wrap ((BitVec.ofInt IntKind.u64.bits a &&& BitVec.ofInt IntKind.u64.bits 4294967295).toNat)=aG a:=by
 unfold ci at ha
 obtain⟨x,rfl⟩:=Int.eq_ofNat_of_zero_le ha.1
 rw[show(4294967295:Int)=((4294967295:Nat):Int) by rfl,BitVec.ofInt_natCast,BitVec.ofInt_natCast,BitVec.toNat_and,BitVec.toNat_ofNat,BitVec.toNat_ofNat,p_,Nat.mod_eq_of_lt J,Nat.mod_eq_of_lt J]
 have:x &&& 4294967295=x % 4294967296:=by
  have h:=Nat.and_two_pow_sub_one_eq_mod x 32
  rw[show(2:Nat)^32=4294967296 by decide]at h
  simpa using h
 rw[this,wrap_u64 J]
 unfold aG
 omega
theorem vA(I:af)(w:Int)(hw:ci w):Fn Tryz.prog 45 [.int .u64 w] I fun x R=>x= .int .i64 (aL w)∧R=I:=by
 refine ay aZ mixed Tryz.func45 (by kernel_rfl) rfl (by kernel_rfl) bE ?_
 have h:=gx hw
 have:w.fdiv 4294967296=aL w:=Int.fdiv_eq_ediv_of_nonneg _ fX
 simp[go_sem,bL,Iu,p_,this,wrap_i64 (n:=aL w) J]
@[go_sem] def TB:=fun(I:af) w hw (aA:U→af→Prop)=>ar (k:=aA) (vA I w hw)
@[go_sem] def TA:=fun(I:af) (b_:Bool) (w:Int) (hw:b_=true→ ci w) (aA:U→af→Prop)=>aJ (k:=aA) b_ fun aY=>vA I w (hw aY)
theorem Ep(I:af)(w:Int)(hw:ci w):Fn Tryz.prog 56 [.int .u64 w] I fun x R=>x= .int .i64 (aG w)∧R=I:=by
 refine ay aZ mixed Tryz.func56 (by kernel_rfl) rfl (by kernel_rfl) bE ?_
 have h:=aO (w:=w)
 simp[go_sem,bL]
 exact(congrArg IntKind.i64.wrap (Mh w hw)).trans (wrap_i64 J)
@[go_sem] def ZR:=fun(I:af) w hw (aA:U→af→Prop)=>ar (k:=aA) (Ep I w hw)
@[go_sem] def ZQ:=fun(I:af) (b_:Bool) (w:Int) (hw:b_=true→ ci w) (aA:U→af→Prop)=>aJ (k:=aA) b_ fun aY=>Ep I w (hw aY)
theorem E2(I:af)(val bK:Int):Fn Tryz.prog 130 [.int .i64 val,.int .i64 bK] I fun x R=>x= .int .u64 (pack val bK)∧R=I:=by
 refine ay aZ mixed Tryz.func130 (by kernel_rfl) rfl (by kernel_rfl) bE ?_
 have h1:=eM (n:=val) (m:=4294967295) fX
 have h2:=eM (n:=bK) (m:=4294967295) fX
 simp[go_sem,bL,It,p_,wrap_u64 (n:=bU val 4294967295) J,wrap_u64 (n:=bU bK 4294967295) J,wrap_u64 (n:=bU bK 4294967295*4294967296) J,pack]
 exact Alt.mk (Alt.mk (Ra _ _ J J))
@[go_sem] def ada:=fun(I:af) val bK (aA:U→af→Prop)=>ar (k:=aA) (E2 I val bK)
@[go_sem] def ac':=fun(I:af) (b_:Bool) (val bK:Int) (aA:U→af→Prop)=>aJ (k:=aA) b_ fun aY=>E2 I val bK
theorem Eu(I:af)(state slot ao bK:Int):Fn Tryz.prog 131 [.int .i64 state,.int .i64 slot,.int .i64 ao,.int .i64 bK] I fun x R=>x= .int .u64 (cK state slot ao bK)∧R=I:=by
 refine ay aZ mixed Tryz.func131 (by kernel_rfl) rfl (by kernel_rfl) bE ?_
 have h1:=eM (n:=state) (m:=2) fX
 have h2:=eM (n:=slot) (m:=7) fX
 have h3:=eM (n:=ao) (m:=4095) fX
 simp(disch:=omega) [go_sem,bL,wrap_i64,cK]
@[go_sem] def ZT:=fun(I:af) state slot ao bK (aA:U→af→Prop)=>ar (k:=aA) (Eu I state slot ao bK)
@[go_sem] def ZS:=fun(I:af) (b_:Bool) (state slot ao bK:Int) (aA:U→af→Prop)=>aJ (k:=aA) b_ fun aY=>Eu I state slot ao bK
theorem KK(I:af)(state ao bK:Int):Fn Tryz.prog 245 [.int .i64 state,.int .i64 ao,.int .i64 bK] I fun x R=>x= .int .u64 (lT state ao bK)∧R=I:=by
 refine ay aZ mixed Tryz.func245 (by kernel_rfl) rfl (by kernel_rfl) bE ?_
 have h1:=eM (n:=state) (m:=2) fX
 have h3:=eM (n:=ao) (m:=4095) fX
 simp(disch:=omega) [go_sem,bL,wrap_i64,lT]
@[go_sem] def afn:=fun(I:af) state ao bK (aA:U→af→Prop)=>ar (k:=aA) (KK I state ao bK)
@[go_sem] def afm:=fun(I:af) (b_:Bool) (state ao bK:Int) (aA:U→af→Prop)=>aJ (k:=aA) b_ fun aY=>KK I state ao bK
theorem zK(I:af)(addr val bK:Int):Fn Tryz.prog 222 [.int .i64 addr,.int .i64 val,.int .i64 bK] I fun x R=>x= .int .u64 (iP addr val bK)∧R=I:=by
 refine ay aZ mixed Tryz.func222 (by kernel_rfl) rfl (by kernel_rfl) bE ?_
 have h1:=eM (n:=addr) (m:=4095) fX
 have h3:=eM (n:=val) (m:=1048575) fX
 simp(disch:=omega) [go_sem,bL,wrap_i64,iP]
@[go_sem] def XC:=fun(I:af) addr val bK (aA:U→af→Prop)=>ar (k:=aA) (zK I addr val bK)
@[go_sem] def XB:=fun(I:af) (b_:Bool) (addr val bK:Int) (aA:U→af→Prop)=>aJ (k:=aA) b_ fun aY=>zK I addr val bK
theorem AO(I:af)(w:Int)(hw:ci w):Fn Tryz.prog 30 [.int .u64 w] I fun x R=>x= .cw [.int .i64 (aG w % 4),.int .i64 (aG w/4)]∧R=I:=by
 refine ay aZ mixed Tryz.func30 (by kernel_rfl) rfl (by kernel_rfl) bE ?_
 have h:=aO (w:=w)
 simp(disch:=first|assumption|omega) [go_sem,bL,wrap_i64,Int.tdiv_eq_ediv_of_nonneg,Int.tmod_eq_emod_of_nonneg]
@[go_sem] def Yx:=fun(I:af) w hw (aA:U→af→Prop)=>ar (k:=aA) (AO I w hw)
@[go_sem] def Yw:=fun(I:af) (b_:Bool) (w:Int) (hw:b_=true→ ci w) (aA:U→af→Prop)=>aJ (k:=aA) b_ fun aY=>AO I w (hw aY)
theorem vE(I:af)(w:Int)(hw:ci w):Fn Tryz.prog 168 [.int .u64 w] I fun x R=>x= .cw [.int .i64 (aG w % 4),.int .i64 (aG w/4 % 8),.int .i64 (aG w/32)]∧R=I:=by
 refine ay aZ mixed Tryz.func168 (by kernel_rfl) rfl (by kernel_rfl) bE ?_
 have h:=aO (w:=w)
 simp(disch:=first|assumption|omega) [go_sem,bL,wrap_i64,Int.tdiv_eq_ediv_of_nonneg,Int.tmod_eq_emod_of_nonneg]
@[go_sem] def TH:=fun(I:af) w hw (aA:U→af→Prop)=>ar (k:=aA) (vE I w hw)
@[go_sem] def TG:=fun(I:af) (b_:Bool) (w:Int) (hw:b_=true→ ci w) (aA:U→af→Prop)=>aJ (k:=aA) b_ fun aY=>vE I w (hw aY)
theorem s7(I:af)(w:Int)(hw:ci w):Fn Tryz.prog 53 [.int .u64 w] I fun x R=>x= .cw [.int .i64 (aG w/1048576),.int .i64 (aG w % 1048576)]∧R=I:=by
 refine ay aZ mixed Tryz.func53 (by kernel_rfl) rfl (by kernel_rfl) bE ?_
 have h:=aO (w:=w)
 simp(disch:=first|assumption|omega) [go_sem,bL,wrap_i64,Int.tdiv_eq_ediv_of_nonneg,Int.tmod_eq_emod_of_nonneg]
@[go_sem] def RY:=fun(I:af) w hw (aA:U→af→Prop)=>ar (k:=aA) (s7 I w hw)
@[go_sem] def RX:=fun(I:af) (b_:Bool) (w:Int) (hw:b_=true→ ci w) (aA:U→af→Prop)=>aJ (k:=aA) b_ fun aY=>s7 I w (hw aY)
end AH
