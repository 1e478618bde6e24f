import Derived.Test.YtagihpbpblnnoaaGreatZ16
import Derived.Test.YtagihpbpblnnoaaGreatZ00
set_option linter.all false
namespace AH
open Go Go.Proofs Ho
set_option maxRecDepth 20000
set_option maxHeartbeats 8000000
def format(c:aM):List Int:=put (put (List.replicate c.size.toNat 0) 0 (gH c)) 2 (pack 0 1)
theorem KL(n:Nat)(k:IntKind)(x:Int):(List.replicate n [U.int k x]).flatten=(List.replicate n x).map (.int k):=by
 induction n with
 |zero=>rfl
 |succ n ih=>simp[List.replicate_succ,ih]
attribute [go_sem] KL
theorem Ee(I:af)(s p l:Int)(h:aM.ok ⟨s,p,l⟩):
 Fn Tryz.prog 218 [cV s p l] I fun x R=>x= .sl I.n 0 (format ⟨s,p,l⟩).length 1∧R=I.push ⟨(format ⟨s,p,l⟩).map (.int .u64),true⟩:=by
 have key:=ld (args:=[cV s p l]) (I:=I) (xs:=(format ⟨s,p,l⟩).map (.int .u64)) aZ mixed Tryz.func218 (by kernel_rfl) rfl (by kernel_rfl) (lz _ _ _) ?_
 ·simpa using key
 have h':=h
 unfold aM.ok at h'
 simp only at h'
 have hs:aM.size ⟨s,p,l⟩=7+23*s+17*p:=rfl
 have qE:47≤aM.size ⟨s,p,l⟩∧aM.size ⟨s,p,l⟩≤1000:=J
 have q1:0≤aM.size ⟨s,p,l⟩:=J
 have q2:¬9223372036854775807≤aM.size ⟨s,p,l⟩:=J
 have q3:8*aM.size ⟨s,p,l⟩≤140737488355328:=J
 have q4:aM.size ⟨s,p,l⟩≤9223372036854775807:=J
 have q5:¬max (aM.size ⟨s,p,l⟩) 0≤0:=J
 have q6:¬max (aM.size ⟨s,p,l⟩) 0≤2:=J
 have q7:0≤max (aM.size ⟨s,p,l⟩) 0:=J
 have s0:=fun x=>jH (kk:= .u64) (ws:=List.replicate (aM.size ⟨s,p,l⟩).toNat 0) (a:=0) (x:=x) J bX
 have s2:=fun y x=>jH (kk:= .u64) (ws:=(List.replicate (aM.size ⟨s,p,l⟩).toNat 0).set 0 y) (a:=2) (x:=x) J bX
 simp only[Int.toNat_zero,List.map_replicate,show(2:Int).toNat=2 from rfl]at s0 s2
 have q8:1≤aM.size ⟨s,p,l⟩:=J
 have q9:3≤aM.size ⟨s,p,l⟩:=J
 simp+contextual (maxSteps:=1000000) (disch:=first|exact dA|fail) [go_sem,int_lt,-Int.not_le,-Int.not_lt,h,kw,q1,q2,q3,q4,q5,q6,q7,q8,q9,s0,s2]
 have hfm:aB ((List.replicate (aM.size ⟨s,p,l⟩).toNat (U.int .u64 0)).set 0 (U.int .u64 (gH ⟨s,p,l⟩))) 2 [U.int .u64 (pack 0 1)]=(format ⟨s,p,l⟩).map (.int .u64):=by
  have:=s2 (gH ⟨s,p,l⟩) (pack 0 1)
  simpa[format,put,List.map_set]using this
 refine Alt.mk (Alt.mk (Alt.mk (Alt.mk ⟨by simp[format,put],?_,?_⟩)))
 ·rw[hfm];simp
 ·rw[hfm,List.take_of_length_le aV]
theorem rE(I:af)(s p l:Int)(h:¬aM.ok ⟨s,p,l⟩):Fn Tryz.prog 218 [cV s p l] I fun x R=>x= .al∧R=I:=by
 refine ay aZ mixed Tryz.func218 (by kernel_rfl) rfl (by kernel_rfl) bE ?_
 simp+contextual (maxSteps:=1000000) (disch:=first|exact dA|fail) [go_sem,int_lt,-Int.not_le,-Int.not_lt,h]
@[go_sem] def RJ:=fun(I:af) s p l h (aA:U→af→Prop)=>ar (k:=aA) (rE I s p l h)
@[go_sem] def RI:=fun(I:af) (b_:Bool) (s p l:Int) (h:b_=true→ ¬aM.ok ⟨s,p,l⟩) (aA:U→af→Prop)=>aJ (k:=aA) b_ fun aY=>rE I s p l (h aY)
end AH
namespace AH
open Go Go.Proofs Ho
set_option maxRecDepth 20000
set_option maxHeartbeats 8000000
theorem ym(ws:List Int)(e:Int):(fh ws e).length=ws.length:=by unfold fh put;simp only;split<;>simp
theorem Oz(I:af)(j n:Nat)(e:Int)(ws:List Int)(hw:I.get j=some ⟨ws.map (.int .u64),true⟩)(hj:j<I.n)(hn:ws.length=n)(hW:∀w∈ws,ci w)(he:ci e)(hl:n≤1000000):Fn Tryz.prog 268 [.sl j 0 n 1,.int .u64 e] I fun x R=>x= .sl j 0 n 1∧R=I.set j ⟨(fh ws e).map (.int .u64),true⟩:=by
 refine ec aZ mixed Tryz.func268 (by kernel_rfl) rfl (by kernel_rfl) ?_ ?_ ?_ ?_
 ·simp[U.lt,hj]
 ·rfl
 ·exact dJ hw (fun a ha=> .inl (nM ha))
 have hv:=bf hj hw hn
 have MR:=aO (w:=e)
 have h0:0≤aG e/1048576:=J
 have hA:=bF hW (aG e/1048576)
 have bt:=dF hw
 by_cases h1:aG e/1048576<ws.length
 ·by_cases h2:aL (at_ ws (aG e/1048576))<aL e
  ·have hp:fh ws e=put ws (aG e/1048576) (pack (aG e % 1048576) (aL e)):=by unfold fh;simp only;rw[if_pos ⟨h1,h2⟩]
   have vK:¬aL e≤aL (at_ ws (aG e/1048576)):=J
   simp+contextual (maxSteps:=1000000) (disch:=first|exact dA|fail) [go_sem,int_lt,-Int.not_le,-Int.not_lt,hp,h1,vK]
  ·have hp:fh ws e=ws:=by unfold fh;simp only;rw[if_neg (fun h=>h2 h.2)]
   have vK:aL e≤aL (at_ ws (aG e/1048576)):=J
   simp+contextual (maxSteps:=1000000) (disch:=first|exact dA|fail) [go_sem,int_lt,-Int.not_le,-Int.not_lt,hp,bt,h1,vK]
 ·have hp:fh ws e=ws:=by unfold fh;simp only;rw[if_neg (fun h=>h1 h.1)]
  have qB:(ws.length:Int)≤aG e/1048576:=J
  simp+contextual (maxSteps:=1000000) (disch:=first|exact dA|fail) [go_sem,int_lt,-Int.not_le,-Int.not_lt,hp,bt,qB]
@[go_sem] def adQ:=fun(I:af) j n e ws hw hj hn hW he hl (aA:U→af→Prop)=>ar (k:=aA) (Oz I j n e ws hw hj hn hW he hl)
def jE(ws:List Int)(n:Int):List Int:=if n<0∨1000<n then ws else put ws 1 (pack (bU (aG (at_ ws 1)+n) 1048575) (aL (at_ ws 1)))
theorem BE(I:af)(j nw:Nat)(RZ:U)(n:Int)(ws:List Int)(hw:I.get j=some ⟨ws.map (.int .u64),true⟩)(hj:j<I.n)(hn:ws.length=nw)(hW:∀w∈ws,ci w)(hl:2≤nw∧nw≤1000000)(hg:RZ.lt I.n=true)(hgL:ey RZ):Fn Tryz.prog 85 [.agg [.sl j 0 nw 1,RZ],.int .i64 n] I fun x R=>x= .agg [.sl j 0 nw 1,RZ]∧R=I.set j ⟨(jE ws n).map (.int .u64),true⟩:=by
 refine ec E1 mixed Tryz.func85 (by kernel_rfl) rfl (by kernel_rfl) ?_ ?_ ?_ ?_
 ·simp[U.lt,U.HL,hj,hg]
 ·rfl
 ·exact dJ hw (fun a ha=> .inl (nM ha))
 have hv:=bf hj hw hn
 have MR:=aO (w:=at_ ws 1)
 have hA:=bF hW 1
 have bt:=dF hw
 have h1:1<(ws.length:Int):=J
 by_cases c1:0≤n∧n≤1000
 ·obtain⟨c2,c3⟩:=c1
  have hp:jE ws n=put ws 1 (pack (bU (aG (at_ ws 1)+n) 1048575) (aL (at_ ws 1))):=by unfold jE;rw[if_neg J]
  simp+contextual (maxSteps:=1000000) (disch:=first|exact dA|fail) [go_sem,int_lt,-Int.not_le,-Int.not_lt,E1,hp,c2,c3]
 ·have hp:jE ws n=ws:=by unfold jE;rw[if_pos J]
  have c2:¬0≤n∨¬n≤1000:=J
  rcases c2 with c2|c2
  ·simp+contextual (maxSteps:=1000000) (disch:=first|exact dA|fail) [go_sem,int_lt,-Int.not_le,-Int.not_lt,E1,hp,bt,c2]
  ·simp+contextual (maxSteps:=1000000) (disch:=first|exact dA|fail) [go_sem,int_lt,-Int.not_le,-Int.not_lt,E1,hp,bt,c2]
@[go_sem] def Zx:=fun(I:af) j nw RZ n ws hw hj hn hW hl hg hgL (aA:U→af→Prop)=>ar (k:=aA) (BE I j nw RZ n ws hw hj hn hW hl hg hgL)
end AH
