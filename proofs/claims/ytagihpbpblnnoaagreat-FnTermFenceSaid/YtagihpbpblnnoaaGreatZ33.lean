import Derived.Test.YtagihpbpblnnoaaGreatZ20
import Derived.Test.YtagihpbpblnnoaaGreatZ13
import Derived.Test.YtagihpbpblnnoaaGreatZ23
import Derived.Test.YtagihpbpblnnoaaGreatZ00
set_option linter.all false
namespace AH
open Go Go.Proofs Ho
set_option maxRecDepth 20000
set_option maxHeartbeats 8000000
def zc(s:Option (Nat×Nat×List U))(v:U×af)[a:Kt (Option (U×af))]:Option (U×af):=
 match s with
 |some (26,240,_)=>some v
 |_=>a.val
theorem Cw(z:List U)(v:U×af)(a:Option (U×af)): @zc (some (26,240,z)) v ⟨a⟩=some v:=_root_.id rfl
theorem Tn{P:Program}{t:TypeId}{R:af}{q j n:Nat}{vs:List U}{gs:List (ag×U×U)}(hj:R.get j=some ⟨vs,true⟩)(hq:R.get q=some ⟨bJ gs,true⟩)(hv:vs.length=26)(ho:vs.all U.one=true)(hn:gs.length=n)(hb:n≤1000):
 cJ P t (.sl q 0 n 26) (.sl j 0 1 26) R= @zc (bR P t) (.sl R.n 0 (n+1) 26,(R.kill q).push ⟨bJ gs++vs,true⟩) ⟨cJ P t (.sl q 0 n 26) (.sl j 0 1 26) R⟩:=by
 unfold zc
 split
 ·rename_i h
  have e1:fZ 26 (.sl j 0 1 26) R=some vs:=by
   have e2:List.take 26 vs=vs:=List.take_of_length_le J
   simp[fZ,hj,hv,e2,ho]
  simp only[cJ,h,e1,eC,hq]
  rw[if_pos ⟨trivial,trivial,by rw[dq,hn];omega,J,J⟩]
  simp
 ·rfl
attribute [go_sem] Tn Cw
theorem Bn(I:af)(j nw gb m:Nat)(slot:Int)(ws:List Int)(gs:List (ag×U×U))(hw:I.get j=some ⟨ws.map (.int .u64),true⟩)(hj:j<I.n)(hn:ws.length=nw)(hW:∀w∈ws,ci w)(hl:nw≤1000000)(rc:gb<I.n)(hg:I.get gb=some ⟨bJ gs,true⟩)(hm:gs.length=m)(Sr:m<6)(hs:0≤slot∧slot<(check ws).1.am)(M8:slot<4):Fn Tryz.prog 145 [.agg [.sl j 0 nw 1,.sl gb 0 m 26],.int .i64 slot] I fun x R=>∃a_:Nat,x= .agg [.sl j 0 nw 1,.sl a_ 0 (m+1) 26]∧(R.get a_=some ⟨bJ (gs++[({ag.zero with up:=true,slot:=slot},.al,.al)]),true⟩∧I.n≤a_∧a_<R.n∧∀y,y<I.n→y≠gb→R.get y=I.get y):=by
 refine bA kP mixed Tryz.func145 (by kernel_rfl) rfl (by kernel_rfl) ?_
 have hv:=bf hj hw hn
 have yD:((m:Nat):Int)<6:=J
 have h6:¬6≤((m:Nat):Int):=J
 obtain⟨s1,s2⟩:=hs
 have s3:¬(check ws).1.am≤slot:=J
 have s4:¬4≤slot:=J
 have s5:0≤slot∧slot<4:=J
 simp+contextual (maxSteps:=1000000) (disch:=first|exact dB|fail) [go_sem,int_lt,-Int.not_le,-Int.not_lt,kP,h6,s1,s3,s4,s5,ag.zero]
 exact Alt.mk (Alt.mk ⟨rb gs {ag.zero with up:=true,slot:=slot} .al .al,J⟩)
@[go_sem] def Y0:=fun(I:af) j nw gb m slot ws gs hw hj hn hW hl rc hg hm Sr hs M8 (aA:U→af→Prop)=>jK aA (Bn I j nw gb m slot ws gs hw hj hn hW hl rc hg hm Sr hs M8)
theorem wE(I:af)(j nw:Nat)(slot:Int)(ws:List Int)(hw:I.get j=some ⟨ws.map (.int .u64),true⟩)(hj:j<I.n)(hn:ws.length=nw)(hW:∀w∈ws,ci w)(hl:nw≤1000000)(hs:0≤slot∧slot<(check ws).1.am)(M8:slot<4):Fn Tryz.prog 145 [.agg [.sl j 0 nw 1,.al],.int .i64 slot] I fun x R=>∃a_:Nat,x= .agg [.sl j 0 nw 1,.sl a_ 0 1 26]∧(R.get a_=some ⟨bJ [({ag.zero with up:=true,slot:=slot},.al,.al)],true⟩∧I.n≤a_∧a_<R.n∧∀y,y<I.n→R.get y=I.get y):=by
 refine bA kP mixed Tryz.func145 (by kernel_rfl) rfl (by kernel_rfl) ?_
 have hv:=bf hj hw hn
 obtain⟨s1,s2⟩:=hs
 have s3:¬(check ws).1.am≤slot:=J
 have s4:¬4≤slot:=J
 have s5:0≤slot∧slot<4:=J
 simp+contextual (maxSteps:=1000000) (disch:=first|exact dB|fail) [go_sem,int_lt,-Int.not_le,-Int.not_lt,kP,s1,s3,s4,s5,ag.zero,cJ,fZ,eC]
 exact Alt.mk (Alt.mk ⟨by simp[bJ],J⟩)
@[go_sem] def Wv:=fun(I:af) j nw slot ws hw hj hn hW hl hs M8 (aA:U→af→Prop)=>jK aA (wE I j nw slot ws hw hj hn hW hl hs M8)
end AH
namespace AH
open Go Go.Proofs Ho
set_option maxRecDepth 20000
set_option maxHeartbeats 8000000
def Nw(c:aM)(g:ag):Int:=
 if g.pc=1∨g.pc=3∨g.pc=5∨g.pc=7 then dn c g.slot
 else if g.pc=4∨g.pc=8 then bT c g.slot
 else if g.pc=13∨g.pc=14 then Go.IntKind.i64.wrap (du c g.slot+g.gk)
 else if g.pc=16∨g.pc=19 then bT c g.aX
 else if g.pc=17 then dn c g.aX
 else if g.pc=21∨g.pc=22 then Go.IntKind.i64.wrap (du c g.aX+g.gk)
 else if g.pc=23∨g.pc=24 then aG g.entry/1048576
 else if g.pc=10∨g.pc=15∨g.pc=20∨g.pc=25∨g.pc=26 then 2
 else 0
theorem Bp(I:af)(s p l:Int)(g:ag)(sv pv:U)(hs:0≤s∧s≤10)(hp:0≤p∧p≤10)(he:ci g.entry)(hS:ey sv)(hP:ey pv):Fn Tryz.prog 163 [cV s p l,.agg (gV g sv pv)] I fun x R=>x= .int .i64 (Nw ⟨s,p,l⟩ g)∧R=I:=by
 refine ay Kn mixed Tryz.func163 (by kernel_rfl) rfl (by kernel_rfl) bE ?_
 have MR:=aO (w:=g.entry)
 simp+contextual (maxSteps:=1000000) (disch:=first|exact dB|fail) [go_sem,int_lt,-Int.not_le,-Int.not_lt,Kn,Nw]
@[go_sem] def Y5:=fun(I:af) s p l g sv pv hs hp he hS hP (aA:U→af→Prop)=>ar (k:=aA) (Bp I s p l g sv pv hs hp he hS hP)
@[go_sem] def Y4:=fun(I:af) (b_:Bool) (s p l:Int) (g:ag) (sv pv:U) (hs:b_=true→ 0≤s∧s≤10) (hp:b_=true→ 0≤p∧p≤10) (he:b_=true→ ci g.entry) (hS:b_=true→ ey sv) (hP:b_=true→ ey pv) (aA:U→af→Prop)=>aJ (k:=aA) b_ fun aY=>Bp I s p l g sv pv (hs aY) (hp aY) (he aY) (hS aY) (hP aY)
end AH
namespace AH
open Go Go.Proofs Ho
set_option maxRecDepth 20000
set_option maxHeartbeats 8000000
theorem Ov(I:af)(s p l:Int)(h:aM.ok ⟨s,p,l⟩)(k:U→af→Prop):
 @dN Tryz.prog (.fn 218 [] []) [cV s p l] I ⟨k⟩= @Alt (k (.sl I.n 0 (format ⟨s,p,l⟩).length 1) (I.push ⟨(format ⟨s,p,l⟩).map (.int .u64),true⟩)) ⟨@dN Tryz.prog (.fn 218 [] []) [cV s p l] I ⟨k⟩⟩:=by
 refine propext ⟨fun hh=> .inr hh,fun hh=>?_⟩
 rcases hh with hh|hh
 ·refine aw (Ee I s p l h) ?_
  rintro v σ' hn ⟨rfl,rfl⟩
  exact hh
 ·exact hh
attribute [go_sem] Ov
theorem ux(I:af)(s p l:Int)(h:¬aM.ok ⟨s,p,l⟩):Fn Tryz.prog 160 [cV s p l] I fun x R=>x= .agg [.al,.al]∧R=I:=by
 refine ay aZ mixed Tryz.func160 (by kernel_rfl) rfl (by kernel_rfl) bE ?_
 simp+contextual (maxSteps:=1000000) (disch:=first|exact dB|fail) [go_sem,int_lt,-Int.not_le,-Int.not_lt,h]
@[go_sem] def Tf:=fun(I:af) s p l h (aA:U→af→Prop)=>ar (k:=aA) (ux I s p l h)
@[go_sem] def Te:=fun(I:af) (b_:Bool) (s p l:Int) (h:b_=true→ ¬aM.ok ⟨s,p,l⟩) (aA:U→af→Prop)=>aJ (k:=aA) b_ fun aY=>ux I s p l (h aY)
theorem Hl(I:af)(s p l:Int)(h:aM.ok ⟨s,p,l⟩):Fn Tryz.prog 160 [cV s p l] I fun x R=>∃a_:Nat,x= .agg [.sl a_ 0 (format ⟨s,p,l⟩).length 1,.al]∧(R.get a_=some ⟨(format ⟨s,p,l⟩).map (.int .u64),true⟩∧I.n≤a_∧a_<R.n∧∀y,y<I.n→R.get y=I.get y):=by
 refine bA aZ mixed Tryz.func160 (by kernel_rfl) rfl (by kernel_rfl) ?_
 simp+contextual (maxSteps:=1000000) (disch:=first|exact dB|fail) [go_sem,int_lt,-Int.not_le,-Int.not_lt,h]
 exact Alt.mk J
@[go_sem] def W_:=fun(I:af) s p l h (aA:U→af→Prop)=>jK aA (Hl I s p l h)
end AH
namespace AH
open Go Go.Proofs Ho
set_option maxRecDepth 20000
set_option maxHeartbeats 8000000
theorem Pu{P:Program}{t:TypeId}{R:af}{j:Nat}{vs:List U}(hj:R.get j=some ⟨vs,true⟩)(hv:vs.length=26)(ho:vs.all U.one=true):
 cJ P t .al (.sl j 0 1 26) R= @zc (bR P t) (.sl R.n 0 1 26,R.push ⟨vs,true⟩) ⟨cJ P t .al (.sl j 0 1 26) R⟩:=by
 unfold zc
 split
 ·rename_i h
  have e2:List.take 26 vs=vs:=List.take_of_length_le J
  have e1:fZ 26 (.sl j 0 1 26) R=some vs:=by simp[fZ,hj,hv,e2,ho]
  simp only[cJ,h,e1,eC]
  simp[hv]
 ·rfl
attribute [go_sem] Pu
def uC(R:af)(lo:Nat)(gs:List (ag×U×U)):Prop:=
 ∀x∈gs,bu .u64 R x.2.1 x.1.snap∧bu .u64 R x.2.2 x.1.ax∧(x.1.snap.length:Int)≤1000000∧(x.1.ax.length:Int)≤1000000∧(lo≤cn x.2.1∨x.2.1= .al)∧(lo≤cn x.2.2∨x.2.2= .al)
theorem uC.frame{I R:af}{lo:Nat}{gs:List (ag×U×U)}(h:uC I lo gs)(hn:I.n≤R.n)(hf:∀j,j<I.n→R.get j=I.get j):uC R lo gs:=
 fun x hx=>⟨(h x hx).1.frame hn hf,(h x hx).2.1.frame hn hf,(h x hx).2.2⟩
theorem uC.kill{I:af}{lo j:Nat}{gs:List (ag×U×U)}(h:uC I lo gs)(hj:∀x∈gs,(cn x.2.1≠j∨x.2.1= .al)∧(cn x.2.2≠j∨x.2.2= .al)):uC (I.kill j) lo gs:=
 fun x hx=>⟨(h x hx).1.kill (hj x hx).1,(h x hx).2.1.kill (hj x hx).2,(h x hx).2.2⟩
theorem uC.snoc{I:af}{lo:Nat}{gs:List (ag×U×U)}(h:uC I lo gs){y:ag×U×U}(hy:uC I lo [y]):uC I lo (gs++[y]):=by
 intro x hx
 rcases List.mem_append.1 hx with hx|hx
 ·exact h x hx
 ·exact hy x hx
theorem uC.aQ{I:af}{lo:Nat}{gs:List (ag×U×U)}(h:uC I lo gs):∀x∈gs,ey x.2.1∧ey x.2.2:=
 fun x hx=>⟨(h x hx).1.aQ,(h x hx).2.1.aQ⟩
end AH
namespace AH
open Go Go.Proofs Ho
set_option maxRecDepth 20000
set_option maxHeartbeats 8000000
theorem D9(I:af)(j nw:Nat)(ws:List Int)(hw:I.get j=some ⟨ws.map (.int .u64),true⟩)(hj:j<I.n)(hn:ws.length=nw)(hl:nw≤1000000):Fn Tryz.prog 122 [.agg [.sl j 0 nw 1,.al]] I fun x R=>∃a_:Nat,x= .agg [.sl a_ 0 nw 1,.al]∧(R.get a_=some ⟨ws.map (.int .u64),true⟩∧I.n≤a_∧a_<R.n∧∀y,y<I.n→R.get y=I.get y):=by
 refine bA DF mixed Tryz.func122 (by kernel_rfl) rfl (by kernel_rfl) ?_
 have hv:=bf hj hw hn
 simp+contextual (maxSteps:=1000000) (disch:=first|exact dB|fail) [go_sem,int_lt,-Int.not_le,-Int.not_lt,DF]
 (repeat refine Alt.mk ?_)
 refine⟨1,?_⟩
 simp+contextual (maxSteps:=1000000) (disch:=first|exact dB|fail) [go_sem,int_lt,-Int.not_le,-Int.not_lt,DF,px]
 (repeat refine Alt.mk ?_)
 exact⟨hn,J⟩
@[go_sem] def S0:=fun(I:af) j nw ws hw hj hn hl (aA:U→af→Prop)=>jK aA (D9 I j nw ws hw hj hn hl)
end AH
