import Derived.Test.YtagihpbpblnnoaaGreatZ03
import Derived.Test.YtagihpbpblnnoaaGreatZ00
set_option linter.all false
namespace Ho
def bU(n m:Int):Int:=max 0 (min n m)
def pack(val bK:Int):Int:=bU bK 4294967295*4294967296+bU val 4294967295
def aG(w:Int):Int:=w % 4294967296
def aL(w:Int):Int:=w/4294967296
def ci(w:Int):Prop:=0≤w∧w<18446744073709551616
def cK(state slot ao bK:Int):Int:=pack (bU state 2+4*bU slot 7+32*bU ao 4095) bK
def lT(state ao bK:Int):Int:=pack (bU state 2+4*bU ao 4095) bK
def iP(addr val bK:Int):Int:=pack (bU addr 4095*1048576+bU val 1048575) bK
structure aM where
 am:Int
 ah:Int
 bH:Int
def aM.ok(c:aM):Prop:=1≤c.am∧c.am≤4∧1≤c.ah∧c.ah≤6∧1≤c.bH∧c.bH≤20
instance(c:aM):Decidable c.ok:=by unfold aM.ok;infer_instance
def aM.ZN(c:aM):Int:=3+c.am
def aM.aaA(c:aM):Int:=3+2*c.am
def aM.adb(c:aM):Int:=7+2*c.am
def aM.afr(c:aM):Int:=7+2*c.am+c.ah
def aM.abO(c:aM):Int:=7+2*c.am+9*c.ah
def aM.im(c:aM):Int:=7+2*c.am+17*c.ah
def aM.size(c:aM):Int:=7+23*c.am+17*c.ah
def at_(ws:List Int)(j:Int):Int:=ws.getD j.toNat 0
def dm(ws:List Int):aM×Bool:=
 if ws=[]∨aL (at_ ws 0)≠201115 then(⟨0,0,0⟩,false)
 else
  let v:=aG (at_ ws 0)
  (⟨v % 8,v/8 % 8,v/64⟩,decide (aM.ok ⟨v % 8,v/8 % 8,v/64⟩))
def iV(ws:List Int):aM×Bool:=
 if(dm ws).2=true∧(ws.length:Int)=(dm ws).1.size then((dm ws).1,true)else(⟨0,0,0⟩,false)
def lK(aT ao clock bH:Int):Bool:=decide (ao<aL aT)||(decide (aL aT=ao)&&decide (clock-aG aT≤bH))
theorem bh(v s:Int):ci (pack v s):=by unfold ci pack bU;omega
theorem aO{w:Int}:0≤aG w∧aG w<4294967296:=by unfold aG;omega
theorem gx{w:Int}(h:ci w):0≤aL w∧aL w<4294967296:=by unfold ci at h;unfold aL;omega
theorem lb(v s:Int):aG (pack v s)=bU v 4294967295:=by unfold aG pack bU;omega
theorem je(v s:Int):aL (pack v s)=bU s 4294967295:=by unfold aL pack bU;omega
theorem wrap_i64{n:Int}(h: -9223372036854775808≤n∧n<9223372036854775808):Go.IntKind.i64.wrap n=n:=by
 unfold Go.IntKind.wrap
 simp only[Go.IntKind.bits,Go.IntKind.signed,Bool.true_and,decide_eq_true_eq,Int.reducePow,Nat.reduceSub]
 split
 next h'=>have h':=of_decide_eq_true h';omega
 next h'=>have h':¬(n % 18446744073709551616≥9223372036854775808):=fun hh=>h' (decide_eq_true hh);omega
theorem wrap_u64{n:Int}(h:0≤n∧n<18446744073709551616):Go.IntKind.u64.wrap n=n:=by
 unfold Go.IntKind.wrap
 simp only[Go.IntKind.bits,Go.IntKind.signed,Bool.false_and,Bool.false_eq_true,if_false,Int.reducePow]
 omega
end Ho
