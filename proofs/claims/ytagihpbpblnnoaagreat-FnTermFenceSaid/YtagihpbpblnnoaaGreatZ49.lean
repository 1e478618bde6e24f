import Derived.Test.YtagihpbpblnnoaaGreatZ39
import Derived.Test.YtagihpbpblnnoaaGreatZ13
import Derived.Test.YtagihpbpblnnoaaGreatZ47
import Derived.Test.YtagihpbpblnnoaaGreatZ00
set_option linter.all false
namespace AH
open Go Go.Proofs Ho
set_option maxRecDepth 20000
set_option maxHeartbeats 16000000
theorem En:dW Bk.zero:=⟨fX,Sm.nil,fun _=>Sm.nil,Sm.nil,Sm.nil,Sm.nil⟩
theorem Oa(ws:List Int)(gs:List ag):dW (rA ws gs).1:=by
 unfold rA
 split
 ·unfold jc
  split
  ·cases hb:(bM (da ws)).2 with
   |true=>exact(xq hb).2.2.2.1
   |false=>
    unfold bM at hb⊢
    simp only at hb⊢
    split
    ·rename_i h1
     rw[if_pos h1]at hb
     split
     ·rename_i h2
      rw[if_pos h2]at hb
      cases hb
     ·exact En
    ·exact En
  ·exact En
 ·exact En
theorem uZ(v:Int):∀(l:List Int) (i:Int),(cB l v i).length≤l.length∧∀x∈cB l v i,i≤x∧x<i+l.length:=by
 intro l
 induction l with
 |nil=>intro i;exact⟨Nat.le_refl _,fun x hx=>by cases hx⟩
 |cons y l ih=>
  intro i
  obtain⟨h1,h2⟩:=ih (i+1)
  unfold cB
  split
  ·refine⟨bX,fun x hx=>?_⟩
   rcases List.mem_cons.1 hx with rfl|hx
   ·simp;omega
   ·have:=h2 x hx;simp;omega
  ·refine⟨bX,fun x hx=>?_⟩
   have:=h2 x hx;simp;omega
theorem FM{b:Bk}(h:dW b)(slot:Int):Sm (jp b slot):=by
 unfold jp
 split
 ·obtain⟨h1,h2⟩:=uZ (slot+1) b.owner 0
  have h3:=h.o.1
  exact .of J fun x hx=>by have:=h2 x hx;omega
 ·exact Sm.nil
theorem LD(I:af)(b:Bk)(pv h0 h1 h2 h3 ov iv ev:U)(slot:Int)(hb:fb I b pv h0 h1 h2 h3 ov iv ev)(hs:dW b)(h: -1000000≤slot∧slot≤1000000)(aA:U→af→Prop):
 @dN Tryz.prog (.fn 167 [] []) [bV b pv h0 h1 h2 h3 ov iv ev,.int .i64 slot] I ⟨aA⟩= @Alt (∀(R:af) (q:Nat),(I.n≤q∧q<R.n∧bu .i64 R (.sl q 0 (jp b slot).length 1) (jp b slot)∧∀y,y<I.n→R.get y=I.get y)→aA (.sl q 0 (jp b slot).length 1) R) ⟨@dN Tryz.prog (.fn 167 [] []) [bV b pv h0 h1 h2 h3 ov iv ev,.int .i64 slot] I ⟨aA⟩⟩:=by
 refine propext ⟨fun hh=> .inr hh,fun hh=>?_⟩
 rcases hh with hh|hh
 ·refine aw (Ot I b pv h0 h1 h2 h3 ov iv ev slot hb hs h) ?_
  rintro v σ' hn ⟨rfl,rfl⟩
  exact hh _ I.n ⟨Nat.le_refl _,aV,EU rfl,fun y hy=>ak hy⟩
 ·exact hh
attribute [go_sem] LD
theorem Hc(I:af)(lo:Nat)(B:Int)(j:Nat)(v:U)(gb:Nat)(ws:List Int)(gs:List (ag×U×U))(h:gm I lo B j v gb ws gs)(i:Nat)(bv:U)(bs:List Int)(p:Int)(hr:Rd I i bv bs p)(uU:i<lo)(hp:p≤999990000):
 Fn Tryz.prog 161 [.ptr i 0,.agg [.sl j 0 ws.length 1,v]] I fun x R=>OB I i bv bs p x R:=by
 generalize hG:(fun(x:U) (R:af)=>OB I i bv bs p x R)=GG
 have fin:∀(R:af) (k w n o a b q:Int),p≤q→q≤p+60→I.n≤R.n→R.get i=some ⟨[bv,.int .i64 q],true⟩→(∀y,y<I.n→NE y i→R.get y=I.get y)→GG (.agg [.int .i64 k,.int .i64 w,.int .i64 n,.int .i64 o,.int .i64 a,.int .i64 b]) R:=by
  intro R k w n o a b q h1 h2 h3 h4 h5
  rw[←hG]
  exact OB.mk hr J k w n o a b q h1 h2 h3 h4 h5
 have iv:=h.aQ
 have hi:=hr.hi
 have zX:=hr.hp
 have hb:=hr.hb
 have lj:=h.lj
 have lg:=h.lg
 clear hG
 refine bA aZ mixed Tryz.func161 (by kernel_rfl) rfl (by kernel_rfl) ?_
 have pk:=fun(k n:Int) (hn:1≤n)=>dC (bs:=bs) (k:=k) (n:=n) hn
 cases h.hv with
 |none=>
  simp+contextual (maxSteps:=1000000) (disch:=first|exact dB|fail) [go_sem,int_lt,-Int.not_le,-Int.not_lt,-List.map_set]
  (repeat refine Alt.mk ?_)
  exact vC
 | @some gb m gs h0 h1 h2 h3 h4=>
   have Sr:(m:Int)≤6:=by have:=h.m6;omega
   have jj:¬m=0:=J
   by_cases k0:cY bs p 14=0
   ·simp+contextual (maxSteps:=1000000) (disch:=first|exact dB|fail) [go_sem,int_lt,-Int.not_le,-Int.not_lt,-List.map_set,jj,k0]
    (repeat refine Alt.mk ?_)
    exact vC
   obtain⟨ab,hR⟩:∃ab:Nat,cY bs (p+1) m=ab:=⟨(cY bs (p+1) m).toNat,by have:=pk (p+1) m J;omega⟩
   have rU:ab<m:=by have:=pk (p+1) m J;omega
   have kK:¬m≤ab:=J
   obtain⟨K,hK⟩:∃K,cY bs (p+2) 16=K:=⟨_,rfl⟩
   by_cases k1:K=0
   ·simp+contextual (maxSteps:=1000000) (disch:=first|exact dB|fail) [go_sem,int_lt,-Int.not_le,-Int.not_lt,-List.map_set,jj,k0,hR,hK,k1]
    (repeat refine Alt.mk ?_)
    exact vC
   by_cases k2:K=1
   ·simp+contextual (maxSteps:=1000000) (disch:=first|exact dB|fail) [go_sem,int_lt,-Int.not_le,-Int.not_lt,-List.map_set,jj,k0,hR,hK,k1,k2]
    (repeat refine Alt.mk ?_)
    exact vC
   by_cases k3:K=2
   ·simp+contextual (maxSteps:=1000000) (disch:=first|exact dB|fail) [go_sem,int_lt,-Int.not_le,-Int.not_lt,-List.map_set,jj,k0,hR,hK,k1,k2,k3]
    (repeat refine Alt.mk ?_)
    exact vC
   obtain⟨⟨g,sv,pv⟩,hx⟩:∃x,gs[ab]? =some x:=⟨gs[ab]'(by omega),by simp[h0,rU]⟩
   have dU:=dr hx
   have hlen:ab*26+26≤(bJ gs).length:=by rw[dq];omega
   have oe:=h.G _ (List.mem_of_getElem? hx)
   have i1:=oe.s.aQ
   have i2:=oe.p.aQ
   cases hq:g.busy with
   |true=>
    simp+contextual (maxSteps:=1000000) (disch:=first|exact dB|fail) [go_sem,int_lt,-Int.not_le,-Int.not_lt,-List.map_set,jj,k0,hR,hK,k1,k2,k3,h4,dU,hlen,rU,kK,hq]
    (repeat refine Alt.mk ?_)
    exact vC
   |false=>
    by_cases k4:g.ao=0
    ·simp+contextual (maxSteps:=1000000) (disch:=first|exact dB|fail) [go_sem,int_lt,-Int.not_le,-Int.not_lt,-List.map_set,jj,k0,hR,hK,k1,k2,k3,h4,dU,hlen,rU,kK,hq,k4]
     (repeat refine Alt.mk ?_)
     exact vC
    ·simp+contextual (maxSteps:=1000000) (disch:=first|exact dB|fail) [go_sem,int_lt,-Int.not_le,-Int.not_lt,-List.map_set,jj,k0,hR,hK,k1,k2,k3,h4,dU,hlen,rU,kK,hq,k4]
     (repeat refine Alt.mk ?_)
     refine bb (fun σ1=>I.n+1+1<σ1.n∧(∀y,y<I.n→NE y i→σ1.get y=I.get y)∧σ1.get i=some ⟨[bv,.int .i64 (p+3)],true⟩∧σ1.get (I.n+1)=some ⟨[.int .i64 0,.int .i64 0,.int .i64 0,.int .i64 0,.int .i64 0,.int .i64 0],true⟩∧σ1.get (I.n+1+1)=some ⟨gV {g with busy:=false} sv pv,true⟩) ?_ ?_
     ·refine⟨by simp only[au,az];omega,sV,aI,aI,?_⟩
      (first|exact bn|fail)
     rintro σ1 ⟨x1,x2,x3,x4,x5⟩
     have jq:I.n≤σ1.n:=J
     have Dp:=hr.go (q:=p+3) jq x3 x2 J
     have qB:gm σ1 lo B j (.sl gb 0 m 26) gb ws gs:=h.DI uU jq x2
     refine aw (Hk σ1 lo B j _ gb ws gs qB) ?_
     rintro x R hn ⟨pv0,SH,SI,SJ,SL,ov,wa,ev,rfl,y1,y2,y3,y4⟩
     have hS:=Oa ws (gs.map (·.1))
     generalize di:(rA ws (gs.map (·.1))).1=b at y1 hS
     generalize(rA ws (gs.map (·.1))).2=ok
     have jn:∀y,y<I.n→NE y i→R.get y=I.get y:=fun y q1 q2=>(y2 y J).trans (x2 y q1 q2)
     have fz:I.n≤R.n:=J
     have O8:Rd R i bv bs (p+3):=hr.go fz ((y2 i J).trans x3) jn J
     have hbV:∀X,fb (R.set i X) b pv0 SH SI SJ SL ov wa ev:=fun X=>y1.mn (y4 i J)
     have z1:R.get (I.n+1)=_:=(y2 _ J).trans x4
     have z2:R.get (I.n+1+1)=_:=(y2 _ x1).trans x5
     have hso:=hS.o
     have ho:=y1.o
     have l1:=y1.p.aQ
     have l2:=y1.h0.aQ
     have l3:=y1.h1.aQ
     have l4:=y1.h2.aQ
     have l5:=y1.h3.aQ
     have l6:=y1.o.aQ
     have l7:=y1.i.aQ
     have l8:=y1.e.aQ
     have gF:cn ov≠i∨ov= .al:=(y4 i J).o
     have gG:0≤g.slot∧g.slot≤10:=oe.gi.slot
     have abe: -1000000≤g.slot∧g.slot≤1000000:=J
     have mr:=FM hS g.slot
     have vP:p+3≤999999000:=J
     clear h qB x2 x3 x4 x5 y2 Dp iv
     simp+contextual (maxSteps:=1000000) (disch:=first|exact dB|fail) [go_sem,int_lt,-Int.not_le,-Int.not_lt,-List.map_set,z1,z2]
     (repeat refine Alt.mk ?_)
     intro kd sl oa ob p' hpa hpb
     repeat' (first|refine Alt.mk ?_|refine And.intro ?_ ?_|intro _)
     all_goals first|(refine fin _ _ _ _ _ _ _ ?_ ?_ ?_ ?_ ?_ ?_;rotate_left 4;((first|exact bn|fail));(intro y y1 y2;simp(disch:=first|exact NE.ne bZ|omega|(simp only[au,az];omega)) only[ak,ai];first|exact jn y y1 y2|exact Qj y y1 y2);omega;omega;(simp only[au,az,aR];omega))|skip
     all_goals
      refine Eq.mpr (LD _ b pv0 SH SI SJ SL ov wa ev g.slot (hbV _).push.push hS abe _) (Alt.mk ?_)
      rintro τ2 q ⟨q1,q2,q3,q4⟩
      simp only[au,az]at q1 q4
      have u1:τ2.get (I.n+1)=some ⟨[.int .i64 0,.int .i64 0,.int .i64 0,.int .i64 0,.int .i64 0,.int .i64 0],true⟩:=(q4 _ J).trans aI
      have u2:τ2.get (R.n+1)=some ⟨[.int .i64 kd,.int .i64 sl,.int .i64 oa,.int .i64 ob],true⟩:=(q4 _ J).trans aI
      have u3:τ2.get i=some ⟨[bv,.int .i64 (p'+1)],true⟩:=(q4 _ J).trans aI
      have Qj:∀y,y<I.n→NE y i→τ2.get y=I.get y:=fun y r1 r2=>(q4 _ J).trans (by first|(first|exact bn|fail)|(simp(disch:=first|exact NE.ne bZ|omega|(simp only[au,az];omega)) only[ak,ai];exact jn y r1 r2))
      have Dk:I.n≤τ2.n:=J
      have hr3:Rd τ2 i bv bs (p'+1):=hr.go Dk u3 Qj J
      generalize jp b g.slot=L at*
      have hq0:¬τ2.n≤q:=J
      have pD:=mr.1
      have UA:cn (.sl q 0 L.length 1)≠i∨U.sl q 0 L.length 1= .al:= .inl il
      have hpL:=fun(h:1≤(L.length:Int))=>dC (bs:=bs) (k:=p'+1) (n:=L.length) h
      clear jn O8 z1 z2 q4 y1 hbV
      simp+contextual (maxSteps:=1000000) (disch:=first|exact dB|fail) [go_sem,int_lt,-Int.not_le,-Int.not_lt,-List.map_set,u1,u2]
      repeat' (first|refine Alt.mk ?_|refine And.intro ?_ ?_|intro _)
      all_goals first|(refine fin _ _ _ _ _ _ _ ?_ ?_ ?_ ?_ ?_ ?_;rotate_left 4;((first|exact bn|fail));(intro y y1 y2;simp(disch:=first|exact NE.ne bZ|omega|(simp only[au,az];omega)) only[ak,ai];first|exact jn y y1 y2|exact Qj y y1 y2);omega;omega;(simp only[au,az,aR];omega))|trace_state
end AH
namespace AH
open Go Go.Proofs Ho
set_option maxRecDepth 20000
set_option maxHeartbeats 16000000
def ip(dZ:List Ev):List U:=dZ.flatMap LZ
theorem lU(dZ:List Ev):(ip dZ).length=dZ.length*6:=by
 induction dZ with
 |nil=>rfl
 |cons e l ih=>simp only[ip,List.flatMap_cons,List.length_append]at ih⊢;rw[ih];simp;omega
theorem jg(l:List Ev)(e:Ev):ip (l++[e])=ip l++LZ e:=by simp[ip]
noncomputable def jF(w:List Int×List ag)(dZ:List Ev):List Int×List ag:=dZ.foldl (fun x e=>uj x.1 x.2 e) w
theorem kl(w:List Int×List ag)(dZ:List Ev)(e:Ev):jF w (dZ++[e])=uj (jF w dZ).1 (jF w dZ).2 e:=by simp[jF]
def Ip(s:Option (Nat×Nat×List U))(v:U×af)[a:Kt (Option (U×af))]:Option (U×af):=
 match s with
 |some (6,48,_)=>some v
 |_=>a.val
theorem Cv(z:List U)(v:U×af)(a:Option (U×af)): @Ip (some (6,48,z)) v ⟨a⟩=some v:=_root_.id rfl
theorem Tm{P:Program}{t:TypeId}{R:af}{q j n:Nat}{vs:List U}{dZ:List Ev}(hj:R.get j=some ⟨vs,true⟩)(hq:R.get q=some ⟨ip dZ,true⟩)(hv:vs.length=6)(ho:vs.all U.one=true)(hn:dZ.length=n)(hb:n≤100000):
 cJ P t (.sl q 0 n 6) (.sl j 0 1 6) R= @Ip (bR P t) (.sl R.n 0 (n+1) 6,(R.kill q).push ⟨ip dZ++vs,true⟩) ⟨cJ P t (.sl q 0 n 6) (.sl j 0 1 6) R⟩:=by
 unfold Ip
 split
 ·rename_i h
  have e1:fZ 6 (.sl j 0 1 6) R=some vs:=by
   have e2:List.take 6 vs=vs:=List.take_of_length_le J
   simp[fZ,hj,hv,e2,ho]
  simp only[cJ,h,e1,eC,hq]
  rw[if_pos ⟨trivial,trivial,by rw[lU,hn];omega,J,J⟩]
  simp
 ·rfl
attribute [go_sem] Tm Cv
theorem F1(dZ:List Ev)(a b c d e f:U):((ip dZ++[a,b,c,d,e,f]).drop (dZ.length*6)).take 6=[a,b,c,d,e,f]:=by
 rw[←lU,List.drop_left];rfl
structure iD(I:af)(i:Nat)(bv:U)(bs:List Int)(c1 c2 c3:Int)(z7:Nat)(B:Int)(j eb:Nat)(dZ:List Ev)(p:Int)(v:U)(gb:Nat)(ws:List Int)(gs:List (ag×U×U))(R:af):Prop where
 W:gm R (I.n+1+1) B j v gb ws gs
 n7:I.n+1<z7∧z7<R.n
 ne:I.n+1<eb∧eb<R.n
 d1:NE j z7
 d2:NE j eb
 d3:NE gb z7
 d4:NE gb eb
 d5:NE z7 eb
 a7:kq z7 gs
 ae:kq eb gs
 g4:R.get I.n=some ⟨[.al,.al],true⟩
 g6:R.get (I.n+1)=some ⟨[.int .i64 c1,.int .i64 c2,.int .i64 c3],true⟩
 g7:R.get z7=some ⟨[.sl j 0 ws.length 1,v],true⟩
 ge:R.get eb=some ⟨ip dZ,true⟩
 rd:Rd R i bv bs p
 fr:∀y,y<I.n→NE y i→R.get y=I.get y
theorem gm.XF{I:af}{lo:Nat}{B:Int}{j:Nat}{v:U}{gb:Nat}{ws:List Int}{gs:List (ag×U×U)}(h:gm I lo B j v gb ws gs):gb<I.n:=by
 have:=h.hj
 cases h.hv with
 |none=>exact this
 |some h0 h1 h2 h3 h4=>exact h2
theorem iD.app{I:af}{i:Nat}{bv:U}{bs:List Int}{c1 c2 c3:Int}{z7:Nat}{B:Int}{j eb:Nat}{dZ:List Ev}{p:Int}{v:U}{gb:Nat}{ws:List Int}{gs:List (ag×U×U)}{R:af}(h:iD I i bv bs c1 c2 c3 z7 B j eb dZ p v gb ws gs R){τ1:af}{Xz:Nat}{TO:List Ev}{q:Int}
 (hi:i<I.n) (hn:R.n≤τ1.n) (h1:R.n≤Xz∧Xz<τ1.n) (hg:τ1.get Xz=some ⟨ip TO,true⟩) (hr:τ1.get i=some ⟨[bv,.int .i64 q],true⟩) (hq:0≤q∧q≤1000000000) (hb:fo bv eb) (hf:∀y,y<R.n→NE y i→NE y eb→τ1.get y=R.get y):
 iD I i bv bs c1 c2 c3 z7 B j Xz TO q v gb ws gs τ1:=by
 obtain⟨W,n7,ne,d1,d2,d3,d4,d5,a7,ae,g4,g6,g7,ge,rd,fr⟩:=h
 have hj:=W.hj
 have rc:=W.XF
 have hlg:=W.lg
 have hlj:=W.lj
 refine⟨W.Hp hn d2 d4 ae (fun y y1 y2 y3=>hf y y2 aD y3),J,J,d1,aD,d3,aD,aD,a7,W.RN h1.1,?_,?_,?_,hg,?_,fun y y1 y2=>?_⟩
 ·rw[hf _ J aD aD];exact g4
 ·rw[hf _ J aD aD];exact g6
 ·rw[hf _ J aD d5];exact g7
 ·obtain⟨b1,b2,b3,b4,b5,b6,b7⟩:=rd
  refine⟨J,hr,?_,b4,b5,b6,hq⟩
  rcases b3.ex with⟨rfl,rfl⟩|⟨y,k,rfl,hy,Bk,eR,hc⟩
  ·exact .nil
  ·rcases b4 with b4|b4
   ·rcases hb with hb|hb
    ·simp only[cn]at b4 hb
     exact .mk' ⟨J,Bk,by rw[hf y hy b4 hb];exact eR,hc⟩
    ·cases hb
   ·cases b4
 ·rw[hf y J y2 aD];exact fr y y1 y2
theorem iD.rdr{I:af}{i:Nat}{bv:U}{bs:List Int}{c1 c2 c3:Int}{z7:Nat}{B:Int}{j eb:Nat}{dZ:List Ev}{p:Int}{v:U}{gb:Nat}{ws:List Int}{gs:List (ag×U×U)}{R:af}(h:iD I i bv bs c1 c2 c3 z7 B j eb dZ p v gb ws gs R){τ1:af}{q:Int}
 (hi:i<I.n) (hn:R.n≤τ1.n) (hr:Rd τ1 i bv bs q) (hf:∀y,y<R.n→NE y i→τ1.get y=R.get y):iD I i bv bs c1 c2 c3 z7 B j eb dZ q v gb ws gs τ1:=by
 obtain⟨W,n7,ne,d1,d2,d3,d4,d5,a7,ae,g4,g6,g7,ge,rd,fr⟩:=h
 refine⟨W.DI (z:=i) J hn hf,J,J,d1,d2,d3,d4,d5,a7,ae,?_,?_,?_,?_,hr,fun y y1 y2=>?_⟩
 ·rw[hf _ J aD];exact g4
 ·rw[hf _ J aD];exact g6
 ·rw[hf _ J aD];exact g7
 ·rw[hf _ J aD];exact ge
 ·rw[hf y J y2];exact fr y y1 y2
theorem iD.TF{I:af}{i:Nat}{bv:U}{bs:List Int}{c1 c2 c3:Int}{z7:Nat}{B:Int}{j eb:Nat}{dZ:List Ev}{p:Int}{v:U}{gb:Nat}{ws:List Int}{gs:List (ag×U×U)}{R:af}(h:iD I i bv bs c1 c2 c3 z7 B j eb dZ p v gb ws gs R){τ1 τ2:af}{B':Int}{v':U}{gb':Nat}{ws':List Int}{gs':List (ag×U×U)}
 (hi:i<I.n) (hb:∀y,y<I.n∨fo bv y) (hn:R.n≤τ1.n) (fz:τ1.n≤τ2.n) (W':gm τ1 (I.n+1+1) B' j v' gb' ws' gs') (rc:gb'=gb∨R.n≤gb') (ha:∀z,z<R.n→kq z gs→kq z gs') (hf:∀y,y<R.n→NE y j→NE y gb→τ1.get y=R.get y)
 (h7:τ2.get z7=some ⟨[.sl j 0 ws'.length 1,v'],true⟩) (eF:∀y,y<τ1.n→NE y z7→τ2.get y=τ1.get y):iD I i bv bs c1 c2 c3 z7 B' j eb dZ p v' gb' ws' gs' τ2:=by
 obtain⟨W,n7,ne,d1,d2,d3,d4,d5,a7,ae,g4,g6,g7,ge,rd,fr⟩:=h
 have hj:=W.hj
 have hlg:=W.lg
 have hlj:=W.lj
 have e1:NE gb' z7:=by
  rcases rc with rfl|rc
  ·exact d3
  ·simp only[NE];omega
 have e2:NE gb' eb:=by
  rcases rc with rfl|rc
  ·exact d4
  ·simp only[NE];omega
 have low:∀y,y<I.n+1+1→τ2.get y=R.get y:=fun y hy=>by
  rw[eF y J aD,hf y J aD aD]
 refine⟨W'.Hp fz d1 e1 (ha z7 n7.2 a7) (fun y _ y2 y3=>eF y y2 y3),J,J,d1,d2,e1,e2,d5,ha z7 n7.2 a7,ha eb ne.2 ae,?_,?_,h7,?_,?_,fun y y1 y2=>?_⟩
 ·rw[low _ J];exact g4
 ·rw[low _ J];exact g6
 ·rw[eF _ J (NE.sw d5),hf _ J (NE.sw d2) (NE.sw d4)];exact ge
 ·obtain⟨b1,b2,b3,b4,b5,b6,b7⟩:=rd
  refine⟨J,by rw[low _ J];exact b2,?_,b4,b5,b6,b7⟩
  rcases b3.ex with⟨rfl,rfl⟩|⟨y,k,rfl,hy,Bk,eR,hc⟩
  ·exact .nil
  ·rcases hb y with hb|hb
   ·exact .mk' ⟨J,Bk,by rw[low y J];exact eR,hc⟩
   ·rcases hb with hb|hb
    ·simp only[cn]at hb;omega
    ·cases hb
 ·rw[low y J];exact fr y y1 y2
theorem s_(c:aM):(format c).length=c.size.toNat:=by unfold format;rw[aF,aF,List.length_replicate]
theorem oA(c:aM):∀w∈format c,ci w:=by
 unfold format
 refine bQ (bQ ?_ (bh _ _)) (bh _ _)
 intro w hw
 obtain⟨_,rfl⟩:=List.mem_replicate.1 hw
 exact xV
theorem LM(I:af)(i:Nat)(bv:U)(bs:List Int)(p:Int)(hr:Rd I i bv bs p)(hp:p≤900000000)(n:Int)(hn:0≤n∧n≤60):
 Fn Tryz.prog 108 [.ptr i 0,.int .i64 n] I fun x R=>∃(c:aM) (j:Nat) (v:U) (gb:Nat) (ws:List Int) (gs:List (ag×U×U)) (eb:Nat) (dZ:List Ev) (q:Int),x= .cw [.agg [.sl j 0 ws.length 1,v],.sl eb 0 dZ.length 6]∧
  c.ok∧(ws,gs.map (·.1))=jF (format c,[]) dZ∧(dZ.length:Int)≤63∧gm R (I.n+1+1) 60000 j v gb ws gs∧Rd R i bv bs q∧p≤q∧q≤p+10000∧(∀y,y<I.n→NE y i→R.get y=I.get y)∧R.get eb=some ⟨ip dZ,true⟩∧eb<R.n:=by
 generalize hG:(fun(x:U) (R:af)=>∃(c:aM) (j:Nat) (v:U) (gb:Nat) (ws:List Int) (gs:List (ag×U×U)) (eb:Nat) (dZ:List Ev) (q:Int),x=U.cw [.agg [.sl j 0 ws.length 1,v],.sl eb 0 dZ.length 6]∧
  c.ok∧(ws,gs.map (·.1))=jF (format c,[]) dZ∧(dZ.length:Int)≤63∧gm R (I.n+1+1) 60000 j v gb ws gs∧Rd R i bv bs q∧p≤q∧q≤p+10000∧(∀y,y<I.n→NE y i→R.get y=I.get y)∧R.get eb=some ⟨ip dZ,true⟩∧eb<R.n)=GG
 have hi:=hr.hi
 have zX:=hr.hp
 have q0:=dC (bs:=bs) (k:=p) (n:=3) J
 have q1:=dC (bs:=bs) (k:=p+1) (n:=3) J
 have q2:=dC (bs:=bs) (k:=p+2) (n:=3) J
 generalize ll:cY bs p 3=s0 at q0
 generalize qE:cY bs (p+1) 3=s1 at q1
 generalize Dq:cY bs (p+2) 3=s2 at q2
 have cq:aM.ok ⟨1+s0,1+s1,1+s2⟩:=by unfold aM.ok;simp only;omega
 refine bA gI mixed Tryz.func108 (by kernel_rfl) rfl (by kernel_rfl) ?_
 simp+contextual (maxSteps:=1000000) (disch:=first|exact dB|fail) [go_sem,int_lt,-Int.not_le,-Int.not_lt,-List.map_set,gI,ll,qE,Dq]
 (repeat refine Alt.mk ?_)
 intro R j jq hw X3 Uk hf
 obtain⟨C,hC⟩:∃C:aM,aM.mk (1+s0) (1+s1) (1+s2)=C:=⟨_,rfl⟩
 rw[hC]at cq hw⊢
 have uB:C.size=7+23*C.am+17*C.ah:=rfl
 have uz:C.am=1+s0:=by rw[←hC]
 have Jp:C.ah=1+s1:=by rw[←hC]
 have hfl:=s_ C
 have pH:∀y,y<I.n→NE y i→R.get y=I.get y:=fun y y1 y2=>(hf y J).trans (by
  have y3:=y2.ne
  repeat' split
  all_goals first|rfl|(exfalso;omega))
 have OX:R.get I.n=some ⟨[.al,.al],true⟩:=(hf _ J).trans (by
  have e1:¬i=I.n:=J
  have e2:¬i=I.n+1:=J
  simp[e1,e2])
 have hf6:R.get (I.n+1)=some ⟨[.int .i64 (1+s0),.int .i64 (1+s1),.int .i64 (1+s2)],true⟩:=(hf _ J).trans (by
  have e1:¬i=I.n:=J
  have e2:¬i=I.n+1:=J
  simp[e1,e2])
 have hfi:R.get i=some ⟨[bv,.int .i64 (p+3)],true⟩:=(hf _ J).trans (by
  have e1:¬i=I.n:=J
  have e2:¬i=I.n+1:=J
  simp[e1,e2])
 have XP:iD I i bv bs (1+s0) (1+s1) (1+s2) R.n 1 j (R.n+1) [] (p+3) .al j (format C) [] ((R.push ⟨[.sl j 0 (format C).length 1,.al],true⟩).push ⟨[],true⟩):=by
  refine⟨⟨bG,?_,X3,X3,oA C,J,J,aV,.none,aV,J⟩,⟨J,bG⟩,⟨J,bG⟩,aD,aD,aD,aD,aD,(by intro x hx;cases hx),(by intro x hx;cases hx),?_,?_,?_,?_,?_,?_⟩
  ·(first|exact bn|fail)
  ·rw[ak bG,ak J];exact OX
  ·rw[ak bG,ak J];exact hf6
  ·(first|exact bn|fail)
  ·(first|exact bn|fail)
  ·refine hr.go bG ?_ ?_ J
   ·rw[ak bG,ak J];exact hfi
   ·intro y y1 y2
    rw[ak bG,ak J];exact pH y y1 y2
  ·intro y y1 y2
   rw[ak bG,ak J];exact pH y y1 y2
 generalize hz7:R.n=z7 at XP⊢
 generalize((R.push ⟨[.sl j 0 (format C).length 1,.al],true⟩).push ⟨[],true⟩)=τ0 at XP⊢
 clear hf hw pH jq OX hf6 hfi
 refine aC (fun R_ env R=>∃(u:Nat),∃(eb:Nat),∃(dZ:List Ev),∃(v:U),∃(gb:Nat),∃(ws:List Int),∃(gs:List (ag×U×U)),env 0= .ptr i 0∧env 1= .int .i64 n∧env 4= .ptr I.n 0∧env 6= .ptr (I.n+1) 0∧env 7= .ptr z7 0∧env 8= .sl eb 0 u 6∧env 9= .int .i64 u∧R_ ((1+s0).toNat-u)∧(iD I i bv bs (1+s0) (1+s1) (1+s2) z7 (1+800*u) j eb dZ (p+3) v gb ws gs R)∧(dZ.length=u∧(u:Int)≤1+s0)∧((ws,gs.map (·.1))=jF (format C,[]) dZ)) (by rintro R_ env R ⟨u,eb,dZ,v,gb,ws,gs,e0,e1,e4,e6,e7,e8,e9,cz,hP,hl,hh⟩;exact⟨_,cz,u,eb,dZ,v,gb,ws,gs,e0,e1,e4,e6,e7,e8,e9,rfl,hP,hl,hh⟩) ⟨0,z7+1,[],.al,j,format C,[],aq,aq,aq,aq,aq,aq,aq,trivial,?_,?_,?_⟩ ?_
 rotate_left 3
 rintro m_ env R ⟨u,eb,dZ,v,gb,ws,gs,e0,e1,e4,e6,e7,e8,e9,rfl,hP,hl,hh⟩
 ·obtain⟨hl,pI⟩:=hl
  have R8:=hP
  obtain⟨W,n7,ne,d1,d2,d3,d4,d5,a7,ae,g4,g6,g7,ge,rd,fr⟩:=hP
  have iv:=W.aQ
  by_cases hu:(u:Int)<1+s0
  ·have pf:=F1 dZ
   have hlen:(ip dZ).length=u*6:=by rw[lU,hl]
   rw[hl]at pf
   have hub:u≤100000:=J
   simp+contextual (maxSteps:=1000000) (disch:=first|exact dB|fail) [go_sem,int_lt,-Int.not_le,-Int.not_lt,-List.map_set,gI,e0,e1,e4,e6,e7,e8,e9,g6,g7,ge,hu,pf,hlen]
   (repeat refine Alt.mk ?_)
   have BN:fo bv eb:=hJ hr.hb J
   have Sd:∀y,y<I.n∨fo bv y:=fun y=>by
    rcases Nat.lt_or_ge y I.n with h|h
    ·exact .inl h
    ·exact .inr (hJ hr.hb h)
   have rg:=rd.hg
   have rn:=rd.hi
   refine bb (fun σ1=>iD I i bv bs (1+s0) (1+s1) (1+s2) z7 (1+800*u) j (R.n+1) (dZ++[⟨1,0,u,0,0,0⟩]) (p+3) v gb ws gs σ1) ?_ ?_
   ·refine R8.app hi (by simp only[au,aR];omega) ⟨J,by simp only[au,aR];omega⟩ ?_ ?_ J BN ?_
    ·rw[jg]
     (first|exact bn|fail)
    ·rw[ak (by simp only[au,aR];omega),ak (by simp only[aR];omega),bg J]
     exact rg
    ·intro y y1 y2 y3
     (first|exact bn|fail)
   generalize R.n+1=XA
   intro σ1 pE
   refine aw (qd σ1 _ _ j v gb ws gs pE.W ⟨1,0,u,0,0,0⟩ ⟨J,J⟩) ?_
   rintro x τ2 fz ⟨v',gb',ws',gs',rfl,w1,w2,w3,w4,w5⟩
   have h7:τ2.get z7=_:=(w5 z7 pE.n7.2 (NE.sw d1) (NE.sw d3)).trans pE.g7
   have wa:=w2.aQ
   have X8:=pE.n7.2
   simp+contextual (maxSteps:=1000000) (disch:=first|exact dB|fail) [go_sem,int_lt,-Int.not_le,-Int.not_lt,-List.map_set,gI,e0,e1,e4,e6,e7,e8,e9,h7]
   (repeat refine Alt.mk ?_)
   refine⟨J,dZ++[⟨1,0,u,0,0,0⟩],v',gb',ws',gs',?_,by simp[hl],J,?_⟩
   ·rw[show(1:Int)+800*((u:Int)+1)=1+800*u+800 by omega]
    exact pE.TF hi Sd fz bj w2 w3 w4 w5 (bo _ _) (fun y y1 y2=>ai y2.ne)
   ·rw[kl,←hh];exact w1
  ·have hS:=dC (bs:=bs) (k:=p+3) (n:=12) J
   generalize T2:cY bs (p+3) 12=S at hS
   have rg:=rd.hg
   have P3:iD I i bv bs (1+s0) (1+s1) (1+s2) z7 3000 j eb dZ (p+4) v gb ws gs (R.set i ⟨[bv,.int .i64 (p+4)],true⟩):=by
    have h0:=R8.rdr (τ1:=R.set i ⟨[bv,.int .i64 (p+4)],true⟩) (q:=p+4) hi bj (rd.gl J) (fun y y1 y2=>ai y2.ne)
    obtain⟨W',r⟩:=h0
    exact⟨W'.le J J,bZ,bZ,bZ,bZ,bZ,bZ,bZ,bZ,bZ,bZ,bZ,bZ,bZ,bZ,bZ⟩
   have L':dZ.length≤3:=J
   have hu9:¬(u:Int)<1+s0:=hu
   clear R8 W n7 ne d1 d2 d3 d4 d5 a7 ae g4 g7 ge fr XP
   simp+contextual (maxSteps:=1000000) (disch:=first|exact dB|fail) [go_sem,int_lt,-Int.not_le,-Int.not_lt,-List.map_set,gI,e0,e1,e4,e6,e7,e8,e9,hu9,T2,g6]
   (repeat refine Alt.mk ?_)
   generalize R.set i ⟨[bv,.int .i64 (p+4)],true⟩=τb at P3⊢
   clear rg g6 rd iv
   subst hl
   refine aC (fun R_ env R=>∃(k:Nat),∃(eb:Nat),∃(dZ:List Ev),∃(pp:Int),∃(v:U),∃(gb:Nat),∃(ws:List Int),∃(gs:List (ag×U×U)),env 0= .ptr i 0∧env 1= .int .i64 n∧env 4= .ptr I.n 0∧env 6= .ptr (I.n+1) 0∧env 7= .ptr z7 0∧env 8= .sl eb 0 dZ.length 6∧env 10= .int .i64 S∧env 11= .int .i64 k∧R_ ((n-k).toNat)∧(iD I i bv bs (1+s0) (1+s1) (1+s2) z7 (3000+800*k) j eb dZ pp v gb ws gs R)∧((k:Int)≤n)∧(p+4≤pp∧pp≤p+4+150*k)∧(dZ.length≤3+k)∧((ws,gs.map (·.1))=jF (format C,[]) dZ)) (by rintro R_ env R ⟨k,eb,dZ,pp,v,gb,ws,gs,e0,e1,e4,e6,e7,e8,em,ft,cz,hP,hk,hpp,hl,hh⟩;exact⟨_,cz,k,eb,dZ,pp,v,gb,ws,gs,e0,e1,e4,e6,e7,e8,em,ft,rfl,hP,hk,hpp,hl,hh⟩) ⟨0,eb,dZ,p+4,v,gb,ws,gs,aq,aq,aq,aq,aq,aq,aq,aq,trivial,?_,?_,?_,?_,?_⟩ ?_
   rotate_left 5
   rintro m_ env R ⟨k,eb,dZ,pp,v,gb,ws,gs,e0,e1,e4,e6,e7,e8,em,ft,rfl,hP,hk,hpp,hl,hh⟩
   ·have R8:=hP
    obtain⟨W,n7,ne,d1,d2,d3,d4,d5,a7,ae,g4,g6,g7,ge,rd,fr⟩:=hP
    have iv:=W.aQ
    have BN:fo bv eb:=hJ hr.hb J
    have Sd:∀y,y<I.n∨fo bv y:=fun y=>by
     rcases Nat.lt_or_ge y I.n with h|h
     ·exact .inl h
     ·exact .inr (hJ hr.hb h)
    by_cases Dg:(k:Int)<n
    ·have Uq:(k:Int)≤59:=J
     simp+contextual (maxSteps:=1000000) (disch:=first|exact dB|fail) [go_sem,int_lt,-Int.not_le,-Int.not_lt,-List.map_set,gI,e0,e1,e4,e6,e7,e8,em,ft,g7,Dg]
     (repeat refine Alt.mk ?_)
     refine aw (Hc R _ _ j v gb ws gs W i bv bs pp rd J J) ?_
     rintro x τ1 jq ⟨I2,q,rfl,b1,b2,r1,ag9,f1⟩
     have hQ:=R8.rdr hi jq r1 f1
     have rg1:=r1.hg
     have rn1:=r1.hi
     obtain⟨W1,n71,Vl,x1,x2,x3,x4,x5,x6,x7,g41,XE,TR,TT,rd1,fr1⟩:=id hQ
     have BQ:dZ.length≤100000:=J
     have hlen:(ip dZ).length=dZ.length*6:=lU dZ
     clear W fr R8 x6 x7 P3 g4 g6 g7 ge f1
     by_cases qE:S<4
     rotate_left
     ·simp+contextual (maxSteps:=1000000) (disch:=first|exact dB|fail) [go_sem,int_lt,-Int.not_le,-Int.not_lt,-List.map_set,gI,e0,e1,e4,e6,e7,e8,em,ft,XE,TR,TT,qE,BQ,hlen]
      (repeat refine Alt.mk ?_)
      refine bb (fun σ1=>iD I i bv bs (1+s0) (1+s1) (1+s2) z7 (3000+800*k) j (τ1.n+1+1) (dZ++[I2]) (q) v gb ws gs σ1) ?_ ?_
      ·refine hQ.app hi IU ⟨J,by simp only[au,aR,az];omega⟩ ?_ ?_ J BN ?_
       ·rw[jg]
        (first|exact bn|fail)
       ·first|(first|exact bn|fail)|(simp(disch:=first|omega|(simp only[au,aR,az];omega)) only[ak,bg,ai];exact rg1)
       ·intro y y1 y2 y3
        first|(first|exact bn|fail)|(simp(disch:=first|exact NE.ne bZ|omega|(simp only[au,aR,az];omega)) only[ak,bg,ai];exact f13 y y1 y2)
      generalize τ1.n+1+1=XA
      intro σ1 pE
      refine aw (qd σ1 _ _ j v gb ws gs pE.W I2 ⟨J,J⟩) ?_
      rintro x τ2 fz ⟨v',gb',ws',gs',rfl,w1,w2,w3,w4,w5⟩
      have h7:τ2.get z7=_:=(w5 z7 pE.n7.2 (NE.sw d1) (NE.sw d3)).trans pE.g7
      have wa:=w2.aQ
      have X8:=pE.n7.2
      simp+contextual (maxSteps:=1000000) (disch:=first|exact dB|fail) [go_sem,int_lt,-Int.not_le,-Int.not_lt,-List.map_set,gI,e0,e1,e4,e6,e7,e8,em,ft,h7]
      (repeat refine Alt.mk ?_)
      refine⟨k+1,dZ++[I2],aV,J,J,q,v',gb',ws',gs',?_,J,J,J,bX,?_⟩
      ·rw[show(3000:Int)+800*((k+1:Nat):Int)=3000+800*k+800 by omega]
       exact pE.TF hi Sd fz bj w2 w3 w4 w5 (bo _ _) (fun y y1 y2=>ai y2.ne)
      ·rw[kl,←hh];exact w1
     by_cases Dq:S<1+s0+1
     rotate_left
     ·simp+contextual (maxSteps:=1000000) (disch:=first|exact dB|fail) [go_sem,int_lt,-Int.not_le,-Int.not_lt,-List.map_set,gI,e0,e1,e4,e6,e7,e8,em,ft,XE,TR,TT,qE,Dq,BQ,hlen]
      (repeat refine Alt.mk ?_)
      refine bb (fun σ1=>iD I i bv bs (1+s0) (1+s1) (1+s2) z7 (3000+800*k) j (τ1.n+1+1) (dZ++[I2]) (q) v gb ws gs σ1) ?_ ?_
      ·refine hQ.app hi IU ⟨J,by simp only[au,aR,az];omega⟩ ?_ ?_ J BN ?_
       ·rw[jg]
        (first|exact bn|fail)
       ·first|(first|exact bn|fail)|(simp(disch:=first|omega|(simp only[au,aR,az];omega)) only[ak,bg,ai];exact rg1)
       ·intro y y1 y2 y3
        first|(first|exact bn|fail)|(simp(disch:=first|exact NE.ne bZ|omega|(simp only[au,aR,az];omega)) only[ak,bg,ai];exact f13 y y1 y2)
      generalize τ1.n+1+1=XA
      intro σ1 pE
      refine aw (qd σ1 _ _ j v gb ws gs pE.W I2 ⟨J,J⟩) ?_
      rintro x τ2 fz ⟨v',gb',ws',gs',rfl,w1,w2,w3,w4,w5⟩
      have h7:τ2.get z7=_:=(w5 z7 pE.n7.2 (NE.sw d1) (NE.sw d3)).trans pE.g7
      have wa:=w2.aQ
      have X8:=pE.n7.2
      simp+contextual (maxSteps:=1000000) (disch:=first|exact dB|fail) [go_sem,int_lt,-Int.not_le,-Int.not_lt,-List.map_set,gI,e0,e1,e4,e6,e7,e8,em,ft,h7]
      (repeat refine Alt.mk ?_)
      refine⟨k+1,dZ++[I2],aV,J,J,q,v',gb',ws',gs',?_,J,J,J,bX,?_⟩
      ·rw[show(3000:Int)+800*((k+1:Nat):Int)=3000+800*k+800 by omega]
       exact pE.TF hi Sd fz bj w2 w3 w4 w5 (bo _ _) (fun y y1 y2=>ai y2.ne)
      ·rw[kl,←hh];exact w1
     by_cases hp8:cY bs q 8≤0
     ·simp+contextual (maxSteps:=1000000) (disch:=first|exact dB|fail) [go_sem,int_lt,-Int.not_le,-Int.not_lt,-List.map_set,gI,e0,e1,e4,e6,e7,e8,em,ft,XE,TR,TT,qE,Dq,hp8,BQ,hlen]
      (repeat refine Alt.mk ?_)
      refine bb (fun σ1=>iD I i bv bs (1+s0) (1+s1) (1+s2) z7 (3000+800*k) j (τ1.n+1+1) (dZ++[I2]) (q+1) v gb ws gs σ1) ?_ ?_
      ·refine hQ.app hi IU ⟨J,by simp only[au,aR,az];omega⟩ ?_ ?_ J BN ?_
       ·rw[jg]
        (first|exact bn|fail)
       ·first|(first|exact bn|fail)|(simp(disch:=first|omega|(simp only[au,aR,az];omega)) only[ak,bg,ai];exact rg1)
       ·intro y y1 y2 y3
        first|(first|exact bn|fail)|(simp(disch:=first|exact NE.ne bZ|omega|(simp only[au,aR,az];omega)) only[ak,bg,ai];exact f13 y y1 y2)
      generalize τ1.n+1+1=XA
      intro σ1 pE
      refine aw (qd σ1 _ _ j v gb ws gs pE.W I2 ⟨J,J⟩) ?_
      rintro x τ2 fz ⟨v',gb',ws',gs',rfl,w1,w2,w3,w4,w5⟩
      have h7:τ2.get z7=_:=(w5 z7 pE.n7.2 (NE.sw d1) (NE.sw d3)).trans pE.g7
      have wa:=w2.aQ
      have X8:=pE.n7.2
      simp+contextual (maxSteps:=1000000) (disch:=first|exact dB|fail) [go_sem,int_lt,-Int.not_le,-Int.not_lt,-List.map_set,gI,e0,e1,e4,e6,e7,e8,em,ft,h7]
      (repeat refine Alt.mk ?_)
      refine⟨k+1,dZ++[I2],aV,J,J,q+1,v',gb',ws',gs',?_,J,J,J,bX,?_⟩
      ·rw[show(3000:Int)+800*((k+1:Nat):Int)=3000+800*k+800 by omega]
       exact pE.TF hi Sd fz bj w2 w3 w4 w5 (bo _ _) (fun y y1 y2=>ai y2.ne)
      ·rw[kl,←hh];exact w1
     simp+contextual (maxSteps:=1000000) (disch:=first|exact dB|fail) [go_sem,int_lt,-Int.not_le,-Int.not_lt,-List.map_set,gI,e0,e1,e4,e6,e7,e8,em,ft,XE,TR,TT,qE,Dq,hp8,BQ,hlen]
     (repeat refine Alt.mk ?_)
     refine bb (fun σm=>σm.n=τ1.n+1∧(∀y,y<τ1.n→NE y i→σm.get y=τ1.get y)∧σm.get τ1.n=some ⟨LZ I2,true⟩∧σm.get i=some ⟨[bv,.int .i64 (q+1)],true⟩) ?_ ?_
     ·exact⟨by simp only[au,az],sV,aI,aI⟩
     rintro σm ⟨m1,m2,m3,m4⟩
     have rm:=r1.go (q:=q+1) J m4 m2 J
     refine aw (Eg σm _ _ j v gb ws gs (W1.DI J J m2) i bv bs (q+1) rm J J S J) ?_
     rintro x τ3 Dk ⟨e2,q2,rfl,c1,c2,r3,ag_,f3⟩
     have f13:∀y,y<τ1.n→NE y i→τ3.get y=τ1.get y:=fun y y1 y2=>(f3 y J y2).trans (m2 y y1 y2)
     have z3:τ3.get τ1.n=some ⟨LZ I2,true⟩:=(f3 _ J aD).trans m3
     have ge3:τ3.get eb=_:=(f13 _ Vl.2 aD).trans TT
     have g73:τ3.get z7=_:=(f13 _ n71.2 aD).trans TR
     have rg3:=r3.hg
     have nb:¬eb=τ1.n:=J
     have nb2:¬z7=τ1.n:=J
     have nb3:τ1.n<τ3.n:=J
     simp+contextual (maxSteps:=1000000) (disch:=first|exact dB|fail) [go_sem,int_lt,-Int.not_le,-Int.not_lt,-List.map_set,gI,e0,e1,e4,e6,e7,e8,em,ft,z3,g73,ge3,BQ,hlen,nb,nb2]
     (repeat refine Alt.mk ?_)
     refine bb (fun σ1=>iD I i bv bs (1+s0) (1+s1) (1+s2) z7 (3000+800*k) j (τ3.n+1) (dZ++[e2]) (q2) v gb ws gs σ1) ?_ ?_
     ·refine hQ.app hi IU ⟨J,by simp only[au,aR,az];omega⟩ ?_ ?_ J BN ?_
      ·rw[jg]
       (first|exact bn|fail)
      ·first|(first|exact bn|fail)|(simp(disch:=first|omega|(simp only[au,aR,az];omega)) only[ak,bg,ai];exact rg3)
      ·intro y y1 y2 y3
       first|(first|exact bn|fail)|(simp(disch:=first|exact NE.ne bZ|omega|(simp only[au,aR,az];omega)) only[ak,bg,ai];exact f13 y y1 y2)
     generalize τ3.n+1=XA
     intro σ1 pE
     refine aw (qd σ1 _ _ j v gb ws gs pE.W e2 ⟨J,J⟩) ?_
     rintro x τ2 fz ⟨v',gb',ws',gs',rfl,w1,w2,w3,w4,w5⟩
     have h7:τ2.get z7=_:=(w5 z7 pE.n7.2 (NE.sw d1) (NE.sw d3)).trans pE.g7
     have wa:=w2.aQ
     have X8:=pE.n7.2
     simp+contextual (maxSteps:=1000000) (disch:=first|exact dB|fail) [go_sem,int_lt,-Int.not_le,-Int.not_lt,-List.map_set,gI,e0,e1,e4,e6,e7,e8,em,ft,h7]
     (repeat refine Alt.mk ?_)
     refine⟨k+1,dZ++[e2],aV,J,J,q2,v',gb',ws',gs',?_,J,J,J,bX,?_⟩
     ·rw[show(3000:Int)+800*((k+1:Nat):Int)=3000+800*k+800 by omega]
      exact pE.TF hi Sd fz bj w2 w3 w4 w5 (bo _ _) (fun y y1 y2=>ai y2.ne)
     ·rw[kl,←hh];exact w1
    ·have Uq:¬(k:Int)<n:=Dg
     simp+contextual (maxSteps:=1000000) (disch:=first|exact dB|fail) [go_sem,int_lt,-Int.not_le,-Int.not_lt,-List.map_set,gI,e0,e1,e4,e6,e7,e8,em,ft,g7,g4,Uq]
     (repeat refine Alt.mk ?_)
     rw[←hG]
     have BP:∀y,y<R.n→NE y I.n→(R.set I.n ⟨[.sl j 0 ws.length 1,v],true⟩).get y=R.get y:=fun y y1 y2=>ai y2.ne
     refine⟨C,j,v,gb,ws,gs,eb,dZ,pp,rfl,cq,hh,J,(W.DI (z:=I.n) J bj BP).le J J,rd.set J ?_,J,J,?_,?_,bj⟩
     ·exact hJ hr.hb (Nat.le_refl _)
     ·intro y y1 y2
      rw[ai J];exact fr y y1 y2
     ·rw[ai J];exact ge
   ·simpa using P3
   ·omega
   ·omega
   ·omega
   ·exact hh
 ·simpa using XP
 ·exact⟨rfl,J⟩
 ·rfl
end AH
