import Derived.Test.YtagihpbpblnnoaaGreatZ33
import Derived.Test.YtagihpbpblnnoaaGreatZ37
import Derived.Test.YtagihpbpblnnoaaGreatZ15
import Derived.Test.YtagihpbpblnnoaaGreatZ20
import Derived.Test.YtagihpbpblnnoaaGreatZ23
import Derived.Test.YtagihpbpblnnoaaGreatZ00
set_option linter.all false
namespace AH
open Go Go.Proofs Ho
set_option maxRecDepth 20000
set_option maxHeartbeats 16000000
structure GA(R:af)(lo:Nat)(B:Int)(j gb:Nat)(x:ag×U×U):Prop where
 gi:GI B x.1
 s:bu .u64 R x.2.1 x.1.snap
 p:bu .u64 R x.2.2 x.1.ax
 sj:fo x.2.1 j
 pj:fo x.2.2 j
 sg:fo x.2.1 gb
 pg:fo x.2.2 gb
 sl:lo≤cn x.2.1∨x.2.1= .al
 pl:lo≤cn x.2.2∨x.2.2= .al
 Gw:kY x.1
inductive GB(R:af)(j:Nat):U→Nat→List (ag×U×U)→Prop where
 |none:GB R j .al j []
 |some {gb m:Nat} {gs:List (ag×U×U)} (h0:gs.length=m) (h1:1≤m) (h2:gb<R.n) (h3:NE gb j) (h4:R.get gb=some ⟨bJ gs,true⟩):GB R j (.sl gb 0 m 26) gb gs
structure gm(R:af)(lo:Nat)(B:Int)(j:Nat)(v:U)(gb:Nat)(ws:List Int)(gs:List (ag×U×U)):Prop where
 hj:j<R.n
 hw:R.get j=some ⟨ws.map (.int .u64),true⟩
 lj:lo≤j
 lg:lo≤gb
 W:∀w∈ws,ci w
 len:(ws.length:Int)≤1000000
 l2:2≤ws.length
 m6:gs.length≤6
 hv:GB R j v gb gs
 G:∀x∈gs,GA R lo B j gb x
 B:B≤900000
theorem GA.frame{I R:af}{lo:Nat}{B:Int}{j gb:Nat}{x:ag×U×U}(h:GA I lo B j gb x)(hn:I.n≤R.n)(hf:∀y,y<I.n→R.get y=I.get y):GA R lo B j gb x:=
 ⟨h.gi,h.s.frame hn hf,h.p.frame hn hf,h.sj,h.pj,h.sg,h.pg,h.sl,h.pl,h.Gw⟩
theorem gm.frame{I R:af}{lo:Nat}{B:Int}{j:Nat}{v:U}{gb:Nat}{ws:List Int}{gs:List (ag×U×U)}(h:gm I lo B j v gb ws gs)(hn:I.n≤R.n)(hf:∀y,y<I.n→R.get y=I.get y):gm R lo B j v gb ws gs:=by
 obtain⟨a1,a2,a3,a4,a5,a6,l2,a7,a8,a9,a0⟩:=h
 refine⟨J,(hf j a1).trans a2,a3,a4,a5,a6,l2,a7,?_,fun x hx=>(a9 x hx).frame hn hf,a0⟩
 cases a8 with
 |none=>exact .none
 |some h0 h1 h2 h3 h4=>exact .some h0 h1 J h3 ((hf gb h2).trans h4)
theorem gm.low{I:af}{lo lo':Nat}{B:Int}{j:Nat}{v:U}{gb:Nat}{ws:List Int}{gs:List (ag×U×U)}(h:gm I lo B j v gb ws gs)(hl:lo'≤lo):gm I lo' B j v gb ws gs:=by
 obtain⟨a1,a2,a3,a4,a5,a6,l2,a7,a8,a9,a0⟩:=h
 refine⟨a1,a2,J,J,a5,a6,l2,a7,a8,fun x hx=>?_,a0⟩
 obtain⟨b1,b2,b3,b4,b5,b6,b7,b8,b9,Mr⟩:=a9 x hx
 refine⟨b1,b2,b3,b4,b5,b6,b7,?_,?_,Mr⟩
 ·rcases b8 with h|h
  ·exact .inl J
  ·exact .inr h
 ·rcases b9 with h|h
  ·exact .inl J
  ·exact .inr h
theorem gm.aQ{I:af}{lo:Nat}{B:Int}{j:Nat}{v:U}{gb:Nat}{ws:List Int}{gs:List (ag×U×U)}(h:gm I lo B j v gb ws gs):ey v:=by
 cases h.hv with
 |none=>exact jV
 |some=>exact kO _ _ _ _
theorem hJ{kk:IntKind}{I:af}{v:U}{l:List Int}(h:bu kk I v l){y:Nat}(hy:I.n≤y):fo v y:=by
 rcases h.ex with⟨rfl,_⟩|⟨i,k,rfl,h1,_⟩
 ·exact .inr rfl
 ·exact .inl il
structure HY(I:af)(n1 j gb m:Nat)(ws:List Int)(gs:List (ag×U×U))(u:Nat)(v:U)(l:List (ag×U×U))(R:af):Prop where
 lu:l.length=u
 um:u≤m
 vv:(v= .al∧l=[])∨(∃q,v= .sl q 0 l.length 26∧1≤l.length∧n1≤q∧q<R.n∧R.get q=some ⟨bJ l,true⟩∧(∀x∈l,fo x.2.1 q∧fo x.2.2 q))
 gw:R.get (I.n+1+1+1+1)=some ⟨[.sl (I.n+1+1+1) 0 ws.length 1,v],true⟩
 gq:R.get (I.n+1+1+1)=some ⟨ws.map (.int .u64),true⟩
 gr:R.get (I.n+1)=some ⟨[.al,.al],true⟩
 g0:R.get I.n=some ⟨[.sl j 0 ws.length 1,.sl gb 0 m 26],true⟩
 hk:∀y,y<I.n→R.get y=I.get y
 G:uC R n1 l
 mp:l.map (·.1)=(gs.take u).map (·.1)
 nn:n1≤R.n
theorem uC.oO{I R:af}{lo q:Nat}{gs:List (ag×U×U)}(h:uC I lo gs)(hn:I.n≤R.n)(hq:∀x∈gs,fo x.2.1 q∧fo x.2.2 q)(hf:∀y,lo≤y→y<I.n→y≠q→R.get y=I.get y):uC R lo gs:=by
 intro x hx
 obtain⟨a1,a2,a3,a4,a5,a6⟩:=h x hx
 obtain⟨b1,b2⟩:=hq x hx
 have go:∀(v:U) (l:List Int),bu .u64 I v l→(lo≤cn v∨v= .al)→fo v q→bu .u64 R v l:=by
  intro v l hl h1 h2
  rcases hl.ex with⟨rfl,rfl⟩|⟨i,k,rfl,hi,Bk,hb,hc⟩
  ·exact .nil
  ·rcases h1 with h1|h1
   ·rcases h2 with h2|h2
    ·simp only[cn]at h1 h2
     exact .mk' ⟨J,Bk,by rw[hf i h1 hi h2];exact hb,hc⟩
    ·cases h2
   ·cases h1
 exact⟨go _ _ a1 a5 b1,go _ _ a2 a6 b2,a3,a4,a5,a6⟩
theorem HY.next{I:af}{n1 j gb m:Nat}{ws:List Int}{gs:List (ag×U×U)}{u:Nat}{v:U}{l:List (ag×U×U)}{R τ2 τ3:af}(h:HY I n1 j gb m ws gs u v l R){g:ag}{sv pv:U}{a b q:Nat}(hu:u<m)(hx:gs[u]? =some (g,sv,pv))(h4:I.n+1+1+1+1<n1)
 (c1:R.n≤τ2.n) (c2:R.n≤a) (c3:a<τ2.n) (c4:R.n≤b) (c5:b<τ2.n) (c7:τ2.get a=some ⟨g.snap.map (.int .u64),true⟩) (c8:τ2.get b=some ⟨g.ax.map (.int .u64),true⟩) (c9:∀y,y<R.n→τ2.get y=R.get y)
 (s1:(g.snap.length:Int)≤1000000) (s2:(g.ax.length:Int)≤1000000) (hq0:cn v<R.n) (zZ:τ2.n<q) (yF:q<τ3.n) (d1:τ3.get q=some ⟨bJ (l++[(g,.sl a 0 g.snap.length 1,.sl b 0 g.ax.length 1)]),true⟩)
 (d2:τ3.get (I.n+1+1+1+1)=some ⟨[.sl (I.n+1+1+1) 0 ws.length 1,.sl q 0 (u+1) 26],true⟩) (d3:∀y,y<τ2.n→NE y (I.n+1+1+1+1)→(NE y (cn v)∨v= .al)→τ3.get y=τ2.get y):
 HY I n1 j gb m ws gs (u+1) (.sl q 0 (u+1) 26) (l++[(g,.sl a 0 g.snap.length 1,.sl b 0 g.ax.length 1)]) τ3:=by
 obtain⟨lu,um,vv,gw,gq,gr,g0,hk,G,mp,nn⟩:=h
 have hv:∀y,y<n1→(NE y (cn v)∨v= .al):=by
  intro y hy
  rcases vv with⟨rfl,_⟩|⟨q',rfl,_,h1,_⟩
  ·exact .inr rfl
  ·exact .inl Es
 have oO:∀y,y<n1→NE y (I.n+1+1+1+1)→τ3.get y=R.get y:=fun y h1 h2=>by rw[d3 y J h2 (hv y h1),c9 y J]
 have BM:∀x∈l,fo x.2.1 (cn v)∧fo x.2.2 (cn v):=by
  rcases vv with⟨rfl,rfl⟩|⟨q',rfl,_,_,_,_,h1⟩
  ·intro x hx;cases hx
  ·exact h1
 have dG:∀x∈l,∀y,R.n≤y→fo x.2.1 y∧fo x.2.2 y:=fun x hx y hy=>⟨hJ (G x hx).1 hy,hJ (G x hx).2.1 hy⟩
 have mem:∀x∈l++[(g,.sl a 0 g.snap.length 1,.sl b 0 g.ax.length 1)],x∈l∨x=(g,.sl a 0 g.snap.length 1,.sl b 0 g.ax.length 1):=by
  intro x hx
  rcases List.mem_append.1 hx with h|h
  ·exact .inl h
  ·exact .inr (List.mem_singleton.1 h)
 have X9:∀y,R.n≤y→(NE y (cn v)∨v= .al):=fun y hy=> .inl aD
 refine⟨by simp[lu],J,.inr ⟨q,by simp[lu],aV,J,yF,d1,?_⟩,d2,?_,?_,?_,?_,?_,?_,J⟩
 ·intro x hx
  rcases mem x hx with h|rfl
  ·exact dG x h q J
  ·exact⟨.inl il,.inl il⟩
 ·rw[oO _ J aD];exact gq
 ·rw[oO _ J aD];exact gr
 ·rw[oO _ J aD];exact g0
 ·intro y hy
  rw[oO y J aD];exact hk y hy
 ·refine uC.snoc (uC.oO G J BM ?_) ?_
  ·intro y h1 h2 h3
   rw[d3 y J aD (.inl h3),c9 y h2]
  ·intro x hx
   obtain rfl:=List.mem_singleton.1 hx
   refine⟨bu.own J (by rw[d3 a c3 aD (X9 a c2)];exact c7),bu.own J (by rw[d3 b c5 aD (X9 b c4)];exact c8),s1,s2,.inl il,.inl il⟩
 ·rw[List.map_append,mp,List.take_add_one,hx]
  simp
end AH
namespace AH
open Go Go.Proofs Ho
set_option maxRecDepth 20000
set_option maxHeartbeats 16000000
theorem fG(ws:List Int):(0≤(check ws).1.am∧(check ws).1.am≤4)∧(0≤(check ws).1.ah∧(check ws).1.ah≤6)∧0≤(check ws).1.bH∧(check ws).1.bH≤20:=by
 unfold check whole
 by_cases h0:ws=[]
 ·rw[if_pos h0];simp
 rw[if_neg h0]
 simp only
 split
 ·rename_i h
  have cq:=h.1
  unfold aM.ok at cq
  simp only at cq⊢
  refine⟨⟨?_,?_⟩,⟨?_,?_⟩,?_,?_⟩<;>omega
 ·simp
noncomputable section
def nC(ws:List Int)(gs:List ag)(i:Nat):List Int×List ag×Int:=
 let g:=gs.getD i ag.zero
 if g.up=false∨g.busy=false then(ws,gs,0)
 else((cW (check ws).1 ws g).ws,gs.set i (cW (check ws).1 ws g).g,(cW (check ws).1 ws g).ev)
end
theorem bu.nh{I R:af}{v:U}{l:List Int}{j gb:Nat}(h:bu .u64 I v l)(hn:I.n≤R.n)(a1:fo v j)(a2:fo v gb)(hf:∀y,y<I.n→NE y j→NE y gb→R.get y=I.get y):bu .u64 R v l:=by
 rcases h.ex with⟨rfl,rfl⟩|⟨i,k,rfl,hi,Bk,hb,hc⟩
 ·exact .nil
 ·rcases a1 with a1|a1
  ·rcases a2 with a2|a2
   ·simp only[cn]at a1 a2
    exact .mk' ⟨J,Bk,by rw[hf i hi a1 a2];exact hb,hc⟩
   ·cases a2
  ·cases a1
theorem GA.nh{I R:af}{lo:Nat}{B:Int}{j gb:Nat}{x:ag×U×U}(h:GA I lo B j gb x)(hn:I.n≤R.n)(hf:∀y,y<I.n→NE y j→NE y gb→R.get y=I.get y){B':Int}(hB:B≤B'):GA R lo B' j gb x:=
 ⟨h.gi.le hB,h.s.nh hn h.sj h.sg hf,h.p.nh hn h.pj h.pg hf,h.sj,h.pj,h.sg,h.pg,h.sl,h.pl,h.Gw⟩
theorem GA.nv{I R:af}{lo:Nat}{B:Int}{j gb:Nat}{g g':ag}{sv pv dS dg:U}(h:GA I lo B j gb (g,sv,pv))(hj:j<I.n)(rc:gb<I.n)(rX:lo≤j)(hn:I.n≤R.n)(hf:∀y,y<I.n→NE y j→NE y gb→R.get y=I.get y){B':Int}(hg:GI B' g')(hi:kY g')
 (h1:NV I.n R sv dS g.snap g'.snap) (h2:NV I.n R pv dg g.ax g'.ax):GA R lo B' j gb (g',dS,dg):=by
 have go:∀(v v':U) (l l':List Int),bu .u64 I v l→fo v j→fo v gb→(lo≤cn v∨v= .al)→NV I.n R v v' l l'→bu .u64 R v' l'∧fo v' j∧fo v' gb∧(lo≤cn v'∨v'= .al):=by
  intro v v' l l' a1 a2 a3 a4 a5
  rcases a5 with⟨rfl,rfl⟩|⟨b1,b2⟩
  ·exact⟨a1.nh hn a2 a3 hf,a2,a3,a4⟩
  ·refine⟨b1,?_,?_,?_⟩
   ·rcases b2 with b|b
    ·exact .inl J
    ·exact .inr b
   ·rcases b2 with b|b
    ·exact .inl J
    ·exact .inr b
   ·rcases b2 with b|b
    ·exact .inl J
    ·exact .inr b
 obtain⟨k0,k1,k2,k3,k4,k5,k6,k7,k8,k9⟩:=h
 obtain⟨x1,x2,x3,x4⟩:=go _ _ _ _ k1 k3 k5 k7 h1
 obtain⟨y1,y2,y3,y4⟩:=go _ _ _ _ k2 k4 k6 k8 h2
 exact⟨hg,x1,y1,x2,y2,x3,y3,x4,y4,hi⟩
theorem NV.fr{n:Nat}{R τ':af}{v v':U}{l l':List Int}(h:NV n R v v' l l')(hn:R.n≤τ'.n)(hf:∀y,n≤y→y<R.n→τ'.get y=R.get y):NV n τ' v v' l l':=by
 rcases h with h|⟨h1,h2⟩
 ·exact .inl h
 ·refine .inr ⟨?_,h2⟩
  rcases h1.ex with⟨rfl,rfl⟩|⟨i,k,rfl,hi,Bk,hb,hc⟩
  ·exact .nil
  ·rcases h2 with h2|h2
   ·simp only[cn]at h2
    exact .mk' ⟨J,Bk,by rw[hf i h2 hi];exact hb,hc⟩
   ·cases h2
def kq(z:Nat)(gs:List (ag×U×U)):Prop:=∀x∈gs,fo x.2.1 z∧fo x.2.2 z
theorem NV.ap{n z:Nat}{R:af}{v v':U}{l l':List Int}(h:NV n R v v' l l')(hz:z<n)(hv:fo v z):fo v' z:=by
 rcases h with⟨rfl,_⟩|⟨_,h⟩
 ·exact hv
 ·rcases h with h|h
  ·exact .inl J
  ·exact .inr h
theorem kq.put{n z i:Nat}{R:af}{gs:List (ag×U×U)}{g g':ag}{sv pv dS dg:U}{l1 l2 l3 l4:List Int}(ha:kq z gs)(hx:gs[i]? =some (g,sv,pv))(hz:z<n)(h1:NV n R sv dS l1 l2)(h2:NV n R pv dg l3 l4):kq z (gs.set i (g',dS,dg)):=by
 intro x hm
 rcases List.mem_or_eq_of_mem_set hm with h|rfl
 ·exact ha x h
 ·obtain⟨b1,b2⟩:=ha _ (List.mem_of_getElem? hx)
  exact⟨h1.ap hz b1,h2.ap hz b2⟩
theorem gm.RN{I:af}{lo:Nat}{B:Int}{j:Nat}{v:U}{gb:Nat}{ws:List Int}{gs:List (ag×U×U)}(h:gm I lo B j v gb ws gs){z:Nat}(hz:I.n≤z):kq z gs:=
 fun x hx=>⟨hJ (h.G x hx).s hz,hJ (h.G x hx).p hz⟩
theorem gm.outs{I R:af}{lo:Nat}{B:Int}{j:Nat}{v:U}{gb:Nat}{ws:List Int}{gs:List (ag×U×U)}(h:gm I lo B j v gb ws gs){z:Nat}(hn:I.n≤R.n)(hz1:NE j z)(QP:NE gb z)(ha:kq z gs)(hf:∀y,y<I.n→NE y z→R.get y=I.get y):gm R lo B j v gb ws gs:=by
 obtain⟨a1,a2,a3,a4,a5,a6,l2,a7,a8,a9,a0⟩:=h
 refine⟨J,(hf j a1 hz1).trans a2,a3,a4,a5,a6,l2,a7,?_,fun x hx=>?_,a0⟩
 ·cases a8 with
  |none=>exact .none
  |some h0 h1 h2 h3 h4=>exact .some h0 h1 J h3 ((hf gb h2 QP).trans h4)
 ·obtain⟨b1,b2⟩:=ha x hx
  have hg:=a9 x hx
  exact⟨hg.gi,hg.s.nh hn b1 b1 (fun y y1 y2 _=>hf y y1 y2),hg.p.nh hn b2 b2 (fun y y1 y2 _=>hf y y1 y2),hg.sj,hg.pj,hg.sg,hg.pg,hg.sl,hg.pl,hg.Gw⟩
theorem gm.put{I R:af}{lo:Nat}{B:Int}{j:Nat}{v:U}{gb:Nat}{ws ws':List Int}{gs:List (ag×U×U)}(h:gm I lo B j v gb ws gs){i:Nat}{x':ag×U×U}(hi:i<gs.length)(hn:I.n≤R.n)
 (hw:R.get j=some ⟨ws'.map (.int .u64),true⟩) (hg:R.get gb=some ⟨bJ (gs.set i x'),true⟩) (hf:∀y,y<I.n→NE y j→NE y gb→R.get y=I.get y) (W:∀w∈ws',ci w) (hl:ws'.length=ws.length) {B':Int} (hx:GA R lo B' j gb x') (hB:B≤B') (C_:B'≤900000):
 gm R lo B' j v gb ws' (gs.set i x'):=by
 obtain⟨a1,a2,a3,a4,a5,a6,l2,a7,a8,a9,a0⟩:=h
 refine⟨J,hw,a3,a4,W,J,J,by simp only[List.length_set];exact a7,?_,?_,C_⟩
 ·cases a8 with
  |none=>simp at hi
  |some h0 h1 h2 h3 h4=>exact .some (by simp only[List.length_set];exact h0) h1 J h3 hg
 ·intro x hxm
  rcases List.mem_or_eq_of_mem_set hxm with h|rfl
  ·exact(a9 x h).nh hn hf hB
  ·exact hx
theorem Ff(I:af)(lo:Nat)(B:Int)(j:Nat)(v:U)(gb:Nat)(ws:List Int)(gs:List (ag×U×U))(h:gm I lo B j v gb ws gs)(i:Nat)(hi:i<gs.length)(hB:1≤B∧B+2≤900000):
 Fn Tryz.prog 84 [.agg [.sl j 0 ws.length 1,v],.int .i64 i] I fun x R=>∃ws' gs',x= .cw [.agg [.sl j 0 ws'.length 1,v],.int .i64 (nC ws (gs.map (·.1)) i).2.2]∧ws'=(nC ws (gs.map (·.1)) i).1∧gs'.map (·.1)=(nC ws (gs.map (·.1)) i).2.1∧gm R lo (B+2) j v gb ws' gs'∧(∀z,z<I.n→kq z gs→kq z gs')∧(∀y,y<I.n→NE y j→NE y gb→R.get y=I.get y):=by
 have hh:=h
 obtain⟨hj,hw,lj,lg,W,len,l2,m6,hv,G,MK⟩:=h
 cases hv with
 |none=>simp at hi
 | @some gb m gs h0 h1 h2 h3 h4=>
   refine bA aZ mixed Tryz.func84 (by kernel_rfl) rfl (by kernel_rfl) ?_
   have hv:=bf hj hw rfl
   obtain⟨⟨g,sv,pv⟩,hx⟩:∃x,gs[i]? =some x:=⟨gs[i]'hi,by simp[hi]⟩
   have vO:(gs.map (·.1)).getD i ag.zero=g:=by simp[hx]
   have oe:=G _ (List.mem_of_getElem? hx)
   have dU:=dr hx
   have hlen:i*26+26≤(bJ gs).length:=by rw[dq];omega
   obtain⟨⟨r1,r2⟩,⟨r3,r4⟩,r5,r6⟩:=fG ws
   have Jb:=oe
   obtain⟨k0,k1,k2,k3,k4,k5,k6,k7,k8,k9⟩:=oe
   have i1:=k1.aQ
   have i2:=k2.aQ
   have MV:i<m:=J
   by_cases hb:g.up=false∨g.busy=false
   ·have ho:nC ws (gs.map (·.1)) i=(ws,gs.map (·.1),0):=by unfold nC;simp only;rw[vO,if_pos hb]
    rw[ho]
    generalize hG:(fun(x:U) (R:af)=>∃ws' gs',x=U.cw [.agg [.sl j 0 ws'.length 1,.sl gb 0 m 26],.int .i64 (ws,gs.map (·.1),(0:Int)).2.2]∧ws'=(ws,gs.map (·.1),(0:Int)).1∧gs'.map (·.1)=(ws,gs.map (·.1),(0:Int)).2.1∧gm R lo (B+2) j (.sl gb 0 m 26) gb ws' gs'∧(∀z,z<I.n→kq z gs→kq z gs')∧(∀y,y<I.n→NE y j→NE y gb→R.get y=I.get y))=GG
    have fin:∀R:af,I.n≤R.n→(∀y,y<I.n→R.get y=I.get y)→GG (.cw [.agg [.sl j 0 ws.length 1,.sl gb 0 m 26],.int .i64 0]) R:=by
     intro R hn hf
     rw[←hG]
     have h1:=hh.frame hn hf
     exact⟨ws,gs,rfl,rfl,rfl,⟨h1.hj,h1.hw,h1.lj,h1.lg,h1.W,h1.len,h1.l2,h1.m6,h1.hv,fun x hx=>(h1.G x hx).nh (Nat.le_refl _) (fun _ _ _ _=>rfl) J,J⟩,fun _ _ h=>h,fun y y1 _ _=>hf y y1⟩
    by_cases hu:g.up=false
    ·simp+contextual (maxSteps:=1000000) (disch:=first|exact dB|fail) [go_sem,int_lt,-Int.not_le,-Int.not_lt,-List.map_set,h4,dU,hlen,MV,hu]
     (repeat refine Alt.mk ?_)
     refine fin _ ?_ ?_
     ·simp only[au,az];omega
     ·(intro j_ xI;simp(disch:=first|exact NE.ne bZ|exact NE.sym bZ|omega|(simp only[au,az,aR,dw];omega)) only[ak,ai,bg,ef])
    ·have po:g.up=true:=by simpa using hu
     have eR:g.busy=false:=by rcases hb with h|h;exact absurd h hu;exact h
     simp+contextual (maxSteps:=1000000) (disch:=first|exact dB|fail) [go_sem,int_lt,-Int.not_le,-Int.not_lt,-List.map_set,h4,dU,hlen,MV,po,eR]
     (repeat refine Alt.mk ?_)
     refine fin _ ?_ ?_
     ·simp only[au,az];omega
     ·(intro j_ xI;simp(disch:=first|exact NE.ne bZ|exact NE.sym bZ|omega|(simp only[au,az,aR,dw];omega)) only[ak,ai,bg,ef])
   ·have po:g.up=true:=by cases hq:g.up with|true=>rfl|false=>exact absurd (.inl hq) hb
    have eR:g.busy=true:=by cases hq:g.busy with|true=>rfl|false=>exact absurd (.inr hq) hb
    obtain⟨O,hO⟩:∃O,cW (check ws).1 ws g=O:=⟨_,rfl⟩
    have ho:nC ws (gs.map (·.1)) i=(O.ws,(gs.map (·.1)).set i O.g,O.ev):=by unfold nC;simp only;rw[vO,if_neg hb,hO]
    rw[ho]
    have L6:=yp (B:=B) (c:=(check ws).1) hB.1 k0 W J
    rw[hO]at L6
    generalize hG:(fun(x:U) (R:af)=>∃ws' gs',x=U.cw [.agg [.sl j 0 ws'.length 1,.sl gb 0 m 26],.int .i64 (O.ws,(gs.map (·.1)).set i O.g,O.ev).2.2]∧ws'=(O.ws,(gs.map (·.1)).set i O.g,O.ev).1∧gs'.map (·.1)=(O.ws,(gs.map (·.1)).set i O.g,O.ev).2.1∧gm R lo (B+2) j (.sl gb 0 m 26) gb ws' gs'∧(∀z,z<I.n→kq z gs→kq z gs')∧(∀y,y<I.n→NE y j→NE y gb→R.get y=I.get y))=GG
    simp+contextual (maxSteps:=1000000) (disch:=first|exact dB|fail) [go_sem,int_lt,-Int.not_le,-Int.not_lt,-List.map_set,h4,dU,hlen,MV,po,eR]
    (repeat refine Alt.mk ?_)
    refine bb (fun σ1=>I.n+1+1+1<σ1.n∧(∀y,y<I.n→σ1.get y=I.get y)∧σ1.get I.n=some ⟨[.sl j 0 ws.length 1,.sl gb 0 m 26],true⟩∧σ1.get (I.n+1)=some ⟨[.al,.al],true⟩) ?_ ?_
    ·exact⟨by simp only[au,az];omega,fp,aI,aI⟩
    rintro σ1 ⟨x1,x2,x3,x4⟩
    have jq:I.n≤σ1.n:=J
    have hW1:=hh.frame jq x2
    have hS:=Bl σ1 j (check ws).1 ws g sv pv B MK k0 hW1.hj hW1.hw W len (k1.frame jq x2) (k2.frame jq x2) k3 k4 J (k0.busy eR)
    simp only[gV,po,eR,hO]at hS
    refine aw hS ?_
    rintro x R hn ⟨dS,dg,rfl,y1,y2,y3,y4⟩
    have z1:=y3.aQ i1
    have z2:=y4.aQ i2
    have w0:R.get I.n=some ⟨[.sl j 0 ws.length 1,.sl gb 0 m 26],true⟩:=by rw[y2 _ J aD];exact x3
    have w1:R.get (I.n+1)=some ⟨[.al,.al],true⟩:=by rw[y2 _ J aD];exact x4
    have w2:R.get gb=some ⟨bJ gs,true⟩:=by rw[y2 _ J h3,x2 _ h2];exact h4
    have w3:¬gb=R.n:=J
    simp+contextual (maxSteps:=1000000) (disch:=first|exact dB|fail) [go_sem,int_lt,-Int.not_le,-Int.not_lt,-List.map_set,w0,w1,w2,w3,hlen,MV]
    (repeat refine Alt.mk ?_)
    have fin:∀τ':af,R.n≤τ'.n→τ'.get gb=some ⟨bJ (gs.set i (O.g,dS,dg)),true⟩→(∀y,y<R.n→NE y gb→NE y I.n→NE y (I.n+1)→τ'.get y=R.get y)→GG (.cw [.agg [.sl j 0 O.ws.length 1,.sl gb 0 m 26],.int .i64 O.ev]) τ':=by
     intro τ' q1 q2 q3
     rw[←hG]
     have f1:∀y,y<I.n→NE y j→NE y gb→τ'.get y=I.get y:=by
      intro y p1 p2 p3
      rw[q3 y J p3 aD aD,y2 y J p2,x2 y p1]
     have e3:=(y3.fr q1 (fun y p1 p2=>q3 y p2 aD aD aD)).low jq
     have e4:=(y4.fr q1 (fun y p1 p2=>q3 y p2 aD aD aD)).low jq
     have e5:τ'.get j=some ⟨O.ws.map (.int .u64),true⟩:=by rw[q3 j J h3.symm aD aD];exact y1
     refine⟨O.ws,gs.set i (O.g,dS,dg),rfl,rfl,by simp[List.map_set],?_,fun z hz ha=>kq.put (hx:=hx) ha hz e3 e4,f1⟩
     exact hh.put hi J e5 q2 f1 L6.W L6.l (Jb.nv hj h2 lj J f1 (L6.g.le J) (hO▸A4 _ _ _ eR) e3 e4) J hB.2
    refine fin _ ?_ ?_ ?_
    ·simp only[au,az];omega
    ·rw[←oB hi]
     (first|exact bn|fail)
    ·intro y p1 p2 p3 p4
     (first|exact bn|fail)
end AH
namespace AH
open Go Go.Proofs Ho
set_option maxRecDepth 20000
set_option maxHeartbeats 16000000
theorem Ej{B:Int}{g:ag}(h:GI B g)(k s a b pc:Int)(bz:Bool)(hp:0≤pc∧pc≤10)(hb:bz=true→1≤pc):GI B {g with aE:=k,aH:=s,oa:=a,ob:=b,busy:=bz,pc:=pc,own:=false}:=by
 obtain⟨h1,h2,h3,h4,h5,h6,h7,h8,h9,pC,lh,nW,jQ,jm,kW,qC,lk,uS,rT,tg,BK,mC,nX,gE⟩:=h
 refine⟨h1,h2,?_,h4,h5,h6,h7,h8,h9,pC,lh,nW,jQ,jm,kW,qC,lk,uS,rT,hb,?_,?_,?_,?_⟩
 ·simp only;omega
 ·simp only;omega
 ·simp only;omega
 ·simp only;omega
 ·simp
theorem zd{B:Int}{g:ag}(hB:1≤B)(h:GI B g)(hi:kY g)(k a b:Int):GI (B+1) (ag.asked g k a b)∧kY (ag.asked g k a b):=by
 unfold ag.asked
 split
 ·exact⟨h.le J,hi⟩
 ·rename_i hh
  have hbz:g.busy=false:=by cases hq:g.busy with|false=>rfl|true=>exact absurd (.inr (.inl hq)) hh
  have hc:∀cd v:Int,GI (B+1) (ag.complete {g with aE:=k,aH:=g.slot,oa:=a,ob:=b} cd v):=fun cd v=>GI.complete (Ej h k g.slot a b 0 false J aV) hB cd v
  simp only
  split
  ·exact⟨hc _ _,kY.complete _ _ _⟩
  split
  ·exact⟨hc _ _,kY.complete _ _ _⟩
  split
  ·exact⟨hc _ _,kY.complete _ _ _⟩
  ·refine⟨?_,kY.busy rfl⟩
   have:=(Ej h k g.slot a b (if k=1 then 4 else 1) true (by split<;>omega) (by split<;>simp)).le (C:=B+1) J
   rw[←hi hbz]at this
   exact this
def iX(k:Int):ag:={ag.zero with up:=true,slot:=k}
theorem mZ{B:Int}{k:Int}(hB:1≤B)(hk:0≤k∧k≤4):GI B (iX k):=by
 refine⟨?_,?_,?_,?_,?_,?_,?_,?_,?_,?_,?_,?_,?_,?_,?_,?_,?_,?_,?_,?_,?_,?_,?_,?_⟩<;>simp[iX,ag.zero,ci]<;>omega
noncomputable section
def qa(ws:List Int)(gs:List ag)(k:Int):List ag:=
 if gs.length<6∧0≤k∧k<(check ws).1.am then gs++[iX k]else gs
def km(i:Nat):Nat→List Int×List ag→List Int×List ag
 |0,w=>w
 |n+1,w=>km i n ((nC w.1 w.2 i).1,(nC w.1 w.2 i).2.1)
structure Ev where
 kind:Int
 aX:Int
 n:Int
 op:Int
 a:Int
 b:Int
def uj(ws:List Int)(gs:List ag)(e:Ev):List Int×List ag:=
 if e.kind=1 then(ws,qa ws gs e.n)
 else if e.kind=5 then(jE ws e.n,gs)
 else if e.aX<0∨(gs.length:Int)≤e.aX then(ws,gs)
 else if e.kind=2 then(ws,gs.set e.aX.toNat {gs.getD e.aX.toNat ag.zero with up:=false})
 else if e.kind=3 then(ws,gs.set e.aX.toNat (ag.asked (gs.getD e.aX.toNat ag.zero) e.op e.a e.b))
 else if e.kind=4 then km e.aX.toNat (min e.n 400).toNat (ws,gs)
 else(ws,gs)
end
theorem kq.one(z:Nat)(k:Int):kq z [(iX k,.al,.al)]:=by
 intro x hx
 obtain rfl:=List.mem_singleton.1 hx
 exact⟨.inr rfl,.inr rfl⟩
theorem kq.snoc{z:Nat}{gs gs':List (ag×U×U)}(h:kq z gs)(h':kq z gs'):kq z (gs++gs'):=by
 intro x hx
 rcases List.mem_append.1 hx with hx|hx
 ·exact h x hx
 ·exact h' x hx
theorem LG(I:af)(lo:Nat)(B:Int)(j:Nat)(v:U)(gb:Nat)(ws:List Int)(gs:List (ag×U×U))(h:gm I lo B j v gb ws gs)(k:Int)(hB:1≤B):
 Fn Tryz.prog 145 [.agg [.sl j 0 ws.length 1,v],.int .i64 k] I fun x R=>∃v' gb' gs',x= .agg [.sl j 0 ws.length 1,v']∧gs'.map (·.1)=qa ws (gs.map (·.1)) k∧gm R lo B j v' gb' ws gs'∧(gb'=gb∨I.n≤gb')∧(∀z,z<I.n→kq z gs→kq z gs')∧(∀y,y<I.n→NE y j→NE y gb→R.get y=I.get y):=by
 have hh:=h
 obtain⟨hj,hw,lj,lg,W,len,l2,m6,hv,G,MK⟩:=h
 obtain⟨⟨r1,r2⟩,⟨r3,r4⟩,r5,r6⟩:=fG ws
 by_cases hc:gs.length<6∧0≤k∧k<(check ws).1.am
 ·have ho:qa ws (gs.map (·.1)) k=gs.map (·.1)++[iX k]:=by unfold qa;rw[if_pos (by simpa using hc)]
  rw[ho]
  obtain⟨c1,c2,c3⟩:=hc
  cases hv with
  |none=>
   refine(wE I j ws.length k ws hw hj rfl W J ⟨c2,c3⟩ J).use ?_
   rintro x R hn ⟨q,rfl,a1,a2,a3,a4⟩
   refine⟨_,q,[(iX k,.al,.al)],rfl,rfl,⟨J,(a4 j hj).trans hw,lj,J,W,len,l2,aV,.some rfl (Nat.le_refl _) a3 aD a1,?_,MK⟩,.inr a2,fun z _ _=>kq.one z k,fun y y1 _ _=>a4 y y1⟩
   intro x hx
   obtain rfl:=List.mem_singleton.1 hx
   exact⟨mZ hB J,.nil,.nil,.inr rfl,.inr rfl,.inr rfl,.inr rfl,.inr rfl,.inr rfl,fun _=>rfl⟩
  | @some gb m gs h0 h1 h2 h3 h4=>
    refine(Bn I j ws.length gb m k ws gs hw hj rfl W J h2 h4 h0 J ⟨c2,c3⟩ J).use ?_
    rintro x R hn ⟨q,rfl,a1,a2,a3,a4⟩
    have hf:∀y,y<I.n→NE y j→NE y gb→R.get y=I.get y:=fun y y1 _ y3=>a4 y y1 y3
    refine⟨_,q,gs++[(iX k,.al,.al)],rfl,aV,⟨J,(a4 j hj h3.symm).trans hw,lj,J,W,len,l2,bX,.some (by simp[h0]) J a3 aD a1,?_,MK⟩,.inr a2,fun z _ h=>kq.snoc h (kq.one z k),hf⟩
    intro x hx
    rcases List.mem_append.1 hx with hx|hx
    ·have hg:=(G x hx).nh hn hf (Int.le_refl _)
     exact⟨hg.gi,hg.s,hg.p,hg.sj,hg.pj,hJ (G x hx).s a2,hJ (G x hx).p a2,hg.sl,hg.pl,hg.Gw⟩
    ·obtain rfl:=List.mem_singleton.1 hx
     exact⟨mZ hB J,.nil,.nil,.inr rfl,.inr rfl,.inr rfl,.inr rfl,.inr rfl,.inr rfl,fun _=>rfl⟩
 ·have ho:qa ws (gs.map (·.1)) k=gs.map (·.1):=by unfold qa;rw[if_neg (by simpa using hc)]
  rw[ho]
  generalize hG:(fun(x:U) (R:af)=>∃v' gb' gs',x=U.agg [.sl j 0 ws.length 1,v']∧gs'.map (·.1)=gs.map (·.1)∧gm R lo B j v' gb' ws gs'∧(gb'=gb∨I.n≤gb')∧(∀z,z<I.n→kq z gs→kq z gs')∧(∀y,y<I.n→NE y j→NE y gb→R.get y=I.get y))=GG
  have fin:∀R:af,I.n≤R.n→(∀y,y<I.n→R.get y=I.get y)→GG (.agg [.sl j 0 ws.length 1,v]) R:=by
   intro R hn hf
   rw[←hG]
   exact⟨v,gb,gs,rfl,rfl,hh.frame hn hf,.inl rfl,fun _ _ h=>h,fun y y1 _ _=>hf y y1⟩
  have iv:=hh.aQ
  refine bA kP mixed Tryz.func145 (by kernel_rfl) rfl (by kernel_rfl) ?_
  have HG:=bf hj hw rfl
  clear hG hh G
  cases hv with
  |none=>
   have cL:¬0≤k∨(0≤k∧(check ws).1.am≤k):=by simp at hc;omega
   rcases cL with e1|⟨e1,e2⟩
   ·simp+contextual (maxSteps:=1000000) (disch:=first|exact dB|fail) [go_sem,int_lt,-Int.not_le,-Int.not_lt,-List.map_set,kP,e1]
    (repeat refine Alt.mk ?_)
    exact fin _ bc fp
   ·simp+contextual (maxSteps:=1000000) (disch:=first|exact dB|fail) [go_sem,int_lt,-Int.not_le,-Int.not_lt,-List.map_set,kP,e1,e2]
    (repeat refine Alt.mk ?_)
    exact fin _ bc fp
  | @some gb m gs h0 h1 h2 h3 h4=>
    have cL:(6:Int)≤(m:Int)∨(¬(6:Int)≤(m:Int)∧¬0≤k)∨(¬(6:Int)≤(m:Int)∧0≤k∧(check ws).1.am≤k):=J
    rcases cL with e1|⟨e1,e2⟩|⟨e1,e2,e3⟩
    ·simp+contextual (maxSteps:=1000000) (disch:=first|exact dB|fail) [go_sem,int_lt,-Int.not_le,-Int.not_lt,-List.map_set,kP,e1]
     (repeat refine Alt.mk ?_)
     exact fin _ bc fp
    ·simp+contextual (maxSteps:=1000000) (disch:=first|exact dB|fail) [go_sem,int_lt,-Int.not_le,-Int.not_lt,-List.map_set,kP,e1,e2]
     (repeat refine Alt.mk ?_)
     exact fin _ bc fp
    ·simp+contextual (maxSteps:=1000000) (disch:=first|exact dB|fail) [go_sem,int_lt,-Int.not_le,-Int.not_lt,-List.map_set,kP,e1,e2,e3]
     (repeat refine Alt.mk ?_)
     exact fin _ bc fp
end AH
namespace AH
open Go Go.Proofs Ho
set_option maxRecDepth 20000
set_option maxHeartbeats 16000000
abbrev LZ(e:Ev):List U:=[.int .i64 e.kind,.int .i64 e.aX,.int .i64 e.n,.int .i64 e.op,.int .i64 e.a,.int .i64 e.b]
theorem gm.le{R:af}{lo:Nat}{B B':Int}{j:Nat}{v:U}{gb:Nat}{ws:List Int}{gs:List (ag×U×U)}(h:gm R lo B j v gb ws gs)(hB:B≤B')(C_:B'≤900000):gm R lo B' j v gb ws gs:=
 ⟨h.hj,h.hw,h.lj,h.lg,h.W,h.len,h.l2,h.m6,h.hv,fun x hx=>(h.G x hx).nh (Nat.le_refl _) (fun _ _ _ _=>rfl) hB,C_⟩
theorem gm.lt{R:af}{lo:Nat}{B:Int}{j:Nat}{v:U}{gb:Nat}{ws:List Int}{gs:List (ag×U×U)}(h:gm R lo B j v gb ws gs):v.lt R.n=true:=by
 cases h.hv with
 |none=>rfl
 |some h0 h1 h2=>simpa[U.lt]using h2
theorem gm.words{I R:af}{lo:Nat}{B:Int}{j:Nat}{v:U}{gb:Nat}{ws ws':List Int}{gs:List (ag×U×U)}(h:gm I lo B j v gb ws gs)(hn:I.n≤R.n)(hw:R.get j=some ⟨ws'.map (.int .u64),true⟩)(hf:∀y,y<I.n→NE y j→R.get y=I.get y)(W:∀w∈ws',ci w)(hl:ws'.length=ws.length):gm R lo B j v gb ws' gs:=by
 have h1:=h.hj
 refine⟨J,hw,h.lj,h.lg,W,by rw[hl];exact h.len,by rw[hl];exact h.l2,h.m6,?_,fun x hx=>(h.G x hx).nh hn (fun y y1 y2 _=>hf y y1 y2) (Int.le_refl _),h.B⟩
 cases h.hv with
 |none=>exact .none
 |some h0 h1 h2 h3 h4=>exact .some h0 h1 J h3 ((hf _ h2 h3).trans h4)
theorem wv{ws:List Int}(h:∀w∈ws,ci w)(n:Int):∀w∈jE ws n,ci w:=by
 unfold jE
 split
 ·exact h
 ·exact bQ h (bh _ _)
theorem qR(ws:List Int)(n:Int):(jE ws n).length=ws.length:=by
 unfold jE
 split
 ·rfl
 ·exact eu _ _ _
theorem A3(l:List U)(k f:Nat)(b:U)(hk:k+26≤l.length)(hf:f<26):aB l (k+f) [b]=aB l k (((l.drop k).take 26).set f b):=by
 unfold aB
 have e1:l.drop k=(l.drop k).take 26++l.drop (k+26):=by
  conv=>lhs;rw[←List.take_append_drop 26 (l.drop k)]
  rw[List.drop_drop]
 obtain⟨M,hM⟩:∃M,(l.drop k).take 26=M:=⟨_,rfl⟩
 have hl:M.length=26:=by rw[←hM];simp;omega
 rw[hM]at e1⊢
 have e2:l.take (k+f)=l.take k++M.take f:=by
  rw[List.take_add,e1,List.take_append_of_le_length J]
 have e3:l.drop (k+f+1)=M.drop (f+1)++l.drop (k+26):=by
  rw[show k+f+1=k+(f+1) by omega,←List.drop_drop,e1,List.drop_append_of_le_length J]
 have e4:M.set f b=M.take f++[b]++M.drop (f+1):=by
  rw[List.set_eq_take_append_cons_drop,if_pos J]
  simp
 rw[e2]
 simp only[List.length_singleton,List.length_set,hl]
 rw[e3,e4]
 simp[List.append_assoc]
theorem m9{gs:List (ag×U×U)}{i f:Nat}{x:ag×U×U}(h:gs[i]? =some x)(hf:f<26)(b:U)(g':ag)(he:(gV x.1 x.2.1 x.2.2).set f b=gV g' x.2.1 x.2.2):aB (bJ gs) (i*26+f) [b]=bJ (gs.set i (g',x.2.1,x.2.2)):=by
 have hi:i<gs.length:=by
  rcases Nat.lt_or_ge i gs.length with h'|h'
  ·exact h'
  ·rw[List.getElem?_eq_none h']at h;cases h
 rw[A3 _ _ _ _ (by rw[dq];omega) hf,dr h,he,oB hi]
theorem A_(ws:List Int)(gs:List ag)(i:Nat):(nC ws gs i).2.1.length=gs.length:=by
 unfold nC
 simp only
 split
 ·rfl
 ·simp
structure DoL(I:af)(lo:Nat)(B:Int)(j gb m N i:Nat)(e:Ev)(ws:List Int)(gs:List (ag×U×U))(u:Nat)(iL:List Int)(tf:List (ag×U×U))(R:af):Prop where
 un:u≤N
 W:gm R lo (B+2*u) j (.sl gb 0 m 26) gb iL tf
 len:tf.length=gs.length
 st:km i (N-u) (iL,tf.map (·.1))=km i N (ws,gs.map (·.1))
 g0:R.get I.n=some ⟨[.sl j 0 iL.length 1,.sl gb 0 m 26],true⟩
 g1:R.get (I.n+1)=some ⟨LZ e,true⟩
 g2:R.get (I.n+1+1)=some ⟨[.al,.al],true⟩
 nn:I.n+1+1<R.n
 fr:∀y,y<I.n→NE y j→NE y gb→R.get y=I.get y
 ap:∀z,kq z gs→(z<I.n+1+1+1)→kq z tf
theorem qd(I:af)(lo:Nat)(B:Int)(j:Nat)(v:U)(gb:Nat)(ws:List Int)(gs:List (ag×U×U))(h:gm I lo B j v gb ws gs)(e:Ev)(hB:1≤B∧B+801≤900000):
 Fn Tryz.prog 82 [.agg [.sl j 0 ws.length 1,v],.agg (LZ e)] I fun x R=>∃v' gb' ws' gs',x= .agg [.sl j 0 ws'.length 1,v']∧(ws',gs'.map (·.1))=uj ws (gs.map (·.1)) e∧gm R lo (B+800) j v' gb' ws' gs'∧(gb'=gb∨I.n≤gb')∧(∀z,z<I.n→kq z gs→kq z gs')∧(∀y,y<I.n→NE y j→NE y gb→R.get y=I.get y):=by
 have hh:=h
 have iv:=h.aQ
 generalize hG:(fun(x:U) (R:af)=>∃v' gb' ws' gs',x=U.agg [.sl j 0 ws'.length 1,v']∧(ws',gs'.map (·.1))=uj ws (gs.map (·.1)) e∧gm R lo (B+800) j v' gb' ws' gs'∧(gb'=gb∨I.n≤gb')∧(∀z,z<I.n→kq z gs→kq z gs')∧(∀y,y<I.n→NE y j→NE y gb→R.get y=I.get y))=GG
 have fin:∀(R:af) (v':U) (gb':Nat) (ws':List Int) (gs':List (ag×U×U)) (B':Int),(ws',gs'.map (·.1))=uj ws (gs.map (·.1)) e→gm R lo B' j v' gb' ws' gs'→B'≤B+800→(gb'=gb∨I.n≤gb')→(∀z,z<I.n→kq z gs→kq z gs')→(∀y,y<I.n→NE y j→NE y gb→R.get y=I.get y)→GG (.agg [.sl j 0 ws'.length 1,v']) R:=by
  intro R v' gb' ws' gs' B' x1 x2 x3 x4 x5 x6
  rw[←hG]
  exact⟨v',gb',ws',gs',rfl,x1,x2.le x3 J,x4,x5,x6⟩
 clear hG
 refine bA jk mixed Tryz.func82 (by kernel_rfl) rfl (by kernel_rfl) ?_
 have fr:∀R:af,(∀y,y<I.n→R.get y=I.get y)→∀y,y<I.n→NE y j→NE y gb→R.get y=I.get y:=fun R h y y1 _ _=>h y y1
 by_cases k1:e.kind=1
 ·have ho:uj ws (gs.map (·.1)) e=(ws,qa ws (gs.map (·.1)) e.n):=by unfold uj;rw[if_pos k1]
  rw[ho]at fin
  simp+contextual (maxSteps:=1000000) (disch:=first|exact dB|fail) [go_sem,int_lt,-Int.not_le,-Int.not_lt,-List.map_set,jk,k1]
  (repeat refine Alt.mk ?_)
  refine bb (fun σ1=>I.n+1+1<σ1.n∧(∀y,y<I.n→σ1.get y=I.get y)∧σ1.get (I.n+1+1)=some ⟨[.al,.al],true⟩) ?_ ?_
  ·exact⟨by simp only[au,az];omega,fp,aI⟩
  rintro σ1 ⟨x1,x2,x3⟩
  have jq:I.n≤σ1.n:=J
  refine aw (LG σ1 lo B j v gb ws gs (hh.frame jq x2) e.n hB.1) ?_
  rintro x R hn ⟨v',gb',gs',rfl,y1,y2,y3,y5,y4⟩
  have wa:=y2.aQ
  have lj:=h.hj
  have w0:R.get (I.n+1+1)=some ⟨[.al,.al],true⟩:=by
   rw[y4 _ J aD ?_];exact x3
   cases h.hv with
   |none=>simp only[NE];omega
   |some h0 h1 h2=>simp only[NE];omega
  simp+contextual (maxSteps:=1000000) (disch:=first|exact dB|fail) [go_sem,int_lt,-Int.not_le,-Int.not_lt,-List.map_set,jk,w0]
  (repeat refine Alt.mk ?_)
  have e1:NE gb' (I.n+1+1):=by
   rcases y3 with rfl|y3
   ·cases h.hv with
    |none=>simp only[NE];omega
    |some h0 h1 h2=>simp only[NE];omega
   ·simp only[NE];omega
  refine fin _ v' gb' ws gs' B (by rw[y1]) (y2.outs (z:=I.n+1+1) bj aD e1 (y5 _ x1 (h.RN J)) (fun y q1 q2=>by(first|exact bn|fail))) J ?_ (fun z z1 z2=>y5 z J z2) ?_
  ·rcases y3 with y3|y3
   ·exact .inl y3
   ·exact .inr J
  ·intro y q1 q2 q3
   rw[ai J,y4 y J q2 q3,x2 y q1]
 by_cases k5:e.kind=5
 ·have ho:uj ws (gs.map (·.1)) e=(jE ws e.n,gs.map (·.1)):=by unfold uj;rw[if_neg k1,if_pos k5]
  rw[ho]at fin
  simp+contextual (maxSteps:=1000000) (disch:=first|exact dB|fail) [go_sem,int_lt,-Int.not_le,-Int.not_lt,-List.map_set,jk,k1,k5]
  (repeat refine Alt.mk ?_)
  refine bb (fun σ1=>I.n+1+1<σ1.n∧(∀y,y<I.n→σ1.get y=I.get y)∧σ1.get (I.n+1+1)=some ⟨[.al,.al],true⟩) ?_ ?_
  ·exact⟨by simp only[au,az];omega,fp,aI⟩
  rintro σ1 ⟨x1,x2,x3⟩
  have jq:I.n≤σ1.n:=J
  have h1:=hh.frame jq x2
  have lj:=h.hj
  have l2:=h.l2
  have len:=h.len
  refine aw (BE σ1 j ws.length v e.n ws h1.hw h1.hj rfl h1.W J h1.lt iv) ?_
  rintro x R hn ⟨rfl,rfl⟩
  have w0:(σ1.set j ⟨(jE ws e.n).map (.int .u64),true⟩).get (I.n+1+1)=some ⟨[.al,.al],true⟩:=by rw[ai J];exact x3
  simp+contextual (maxSteps:=1000000) (disch:=first|exact dB|fail) [go_sem,int_lt,-Int.not_le,-Int.not_lt,-List.map_set,jk,w0]
  (repeat refine Alt.mk ?_)
  have e1:NE gb (I.n+1+1):=by
   cases h.hv with
   |none=>simp only[NE];omega
   |some h0 h1 h2=>simp only[NE];omega
  have h2:=h1.words (R:=σ1.set j ⟨(jE ws e.n).map (.int .u64),true⟩) bj (bo _ _) (fun y y1 y2=>ai y2.ne) (wv h.W _) (qR _ _)
  have rR:=fun R h=>fin R v gb (jE ws e.n) gs B rfl h J (.inl rfl) (fun _ _ h=>h)
  rw[qR]at rR
  refine rR _ (h2.outs (z:=I.n+1+1) bj aD e1 (h.RN J) (fun y q1 q2=>by(first|exact bn|fail))) ?_
  intro y q1 q2 q3
  rw[ai J,ai q2.ne,x2 y q1]
 by_cases hw:e.aX<0∨(gs.length:Int)≤e.aX
 ·have ho:uj ws (gs.map (·.1)) e=(ws,gs.map (·.1)):=by unfold uj;rw[if_neg k1,if_neg k5,if_pos (by simpa using hw)]
  rw[ho]at fin
  have f1:∀R:af,I.n≤R.n→(∀y,y<I.n→R.get y=I.get y)→GG (.agg [.sl j 0 ws.length 1,v]) R:=fun R hn hf=>fin R v gb ws gs B rfl (hh.frame hn hf) J (.inl rfl) (fun _ _ h=>h) (fr R hf)
  clear fin hh
  by_cases Yc:e.aX<0
  ·have Nb:¬0≤e.aX:=J
   simp+contextual (maxSteps:=1000000) (disch:=first|exact dB|fail) [go_sem,int_lt,-Int.not_le,-Int.not_lt,-List.map_set,jk,k1,k5,Nb]
   (repeat refine Alt.mk ?_)
   exact f1 _ bc fp
  ·have Nb:0≤e.aX:=J
   cases h.hv with
   |none=>
    have hw2:(0:Int)≤e.aX:=J
    simp+contextual (maxSteps:=1000000) (disch:=first|exact dB|fail) [go_sem,int_lt,-Int.not_le,-Int.not_lt,-List.map_set,jk,k1,k5,Nb]
    (repeat refine Alt.mk ?_)
    exact f1 _ bc fp
   | @some gb m gs h0 h1 h2 h3 h4=>
     have hw2:(m:Int)≤e.aX:=J
     simp+contextual (maxSteps:=1000000) (disch:=first|exact dB|fail) [go_sem,int_lt,-Int.not_le,-Int.not_lt,-List.map_set,jk,k1,k5,Nb,hw2]
     (repeat refine Alt.mk ?_)
     exact f1 _ bc fp
 obtain⟨i,hi⟩:∃i:Nat,e.aX=i:=⟨e.aX.toNat,J⟩
 have uU:i<gs.length:=J
 have hv:=h.hv
 cases hv with
 |none=>simp at uU
 | @some gb m gs h0 h1 h2 h3 h4=>
   obtain⟨⟨g,sv,pv⟩,hx⟩:∃x,gs[i]? =some x:=⟨gs[i]'uU,by simp[uU]⟩
   have vO:(gs.map (·.1)).getD i ag.zero=g:=by simp[hx]
   have dU:=dr hx
   have hlen:i*26+26≤(bJ gs).length:=by rw[dq];omega
   have oe:=h.G _ (List.mem_of_getElem? hx)
   have Jb:=oe
   obtain⟨q0,q1,q2,q3,q4,q5,q6,q7,q8,q9⟩:=oe
   have i1:=q1.aQ
   have i2:=q2.aQ
   have MV:i<m:=J
   have MW:¬m≤i:=J
   have n1:¬gb=I.n:=J
   have n2:¬gb=I.n+1:=J
   have n3:¬gb=I.n+1+1:=J
   have hj:=h.hj
   have lj:=h.lj
   have w3:¬e.aX<0:=J
   have w4:¬(gs.length:Int)≤e.aX:=hw∘ .inr
   have w5:¬(e.aX<0∨(((gs.map (·.1)).length:Nat):Int)≤e.aX):=by simpa using hw
   have hit:e.aX.toNat=i:=J
   by_cases k2:e.kind=2
   ·have ho:uj ws (gs.map (·.1)) e=(ws,(gs.map (·.1)).set i {g with up:=false}):=by unfold uj;rw[if_neg k1,if_neg k5,if_neg w5,if_pos k2,hit,vO]
    rw[ho]at fin
    simp+contextual (maxSteps:=1000000) (disch:=first|exact dB|fail) [go_sem,int_lt,-Int.not_le,-Int.not_lt,-List.map_set,jk,k1,k5,k2,hi,MV,MW,n1,n2,n3,h4,hlen,dU]
    (repeat refine Alt.mk ?_)
    have hc:=m9 (f:=0) hx J (.bool false) {g with up:=false} rfl
    simp only[Nat.add_zero]at hc
    rw[hc]
    have hf:∀R:af,(∀y,y<I.n→NE y gb→R.get y=I.get y)→∀y,y<I.n→NE y j→NE y gb→R.get y=I.get y:=fun R h y y1 _ y3=>h y y1 y3
    have go:∀R:af,I.n≤R.n→R.get gb=some ⟨bJ (gs.set i ({g with up:=false},sv,pv)),true⟩→(∀y,y<I.n→NE y gb→R.get y=I.get y)→GG (.agg [.sl j 0 ws.length 1,.sl gb 0 m 26]) R:=by
     intro R a1 a2 a3
     refine fin R _ gb ws (gs.set i ({g with up:=false},sv,pv)) B (by simp[List.map_set]) (hh.put uU a1 ((a3 j hj h3.symm).trans h.hw) a2 (hf R a3) h.W rfl ?_ (Int.le_refl _) h.B) J (.inl rfl) (fun z _ hz=>?_) (hf R a3)
     ·refine GA.nv Jb hj h2 lj a1 (hf R a3) (g':={g with up:=false}) ?_ Jb.Gw (.inl ⟨rfl,rfl⟩) (.inl ⟨rfl,rfl⟩)
      obtain⟨d1,d2,d3,d4,d5,d6,d7,d8,d9,d10,d11,d12,d13,d14,d15,d16,d17,d18,d19,d20,d21,d22,d23,d24⟩:=q0
      exact⟨d1,d2,d3,d4,d5,d6,d7,d8,d9,d10,d11,d12,d13,d14,d15,d16,d17,d18,d19,d20,d21,d22,d23,d24⟩
     ·exact kq.put (n:=z+1) (R:=R) (l1:=[]) (l2:=[]) (l3:=[]) (l4:=[]) hz hx J (.inl ⟨rfl,rfl⟩) (.inl ⟨rfl,rfl⟩)
    refine go _ ?_ ?_ ?_
    ·simp only[au,az];omega
    ·(first|exact bn|fail)
    ·intro y y1 y2
     (first|exact bn|fail)
   by_cases k3:e.kind=3
   ·have ho:uj ws (gs.map (·.1)) e=(ws,(gs.map (·.1)).set i (ag.asked g e.op e.a e.b)):=by unfold uj;rw[if_neg k1,if_neg k5,if_neg w5,if_neg k2,if_pos k3,hit,vO]
    rw[ho]at fin
    have s0:(g.snap.length:Int)≤B:=q0.snap
    have s0':(g.ax.length:Int)≤20:=q0.ax
    have s1:(g.snap.length:Int)≤1000000:=J
    have s2:(g.ax.length:Int)≤1000000:=J
    have s3:0≤g.count∧g.count≤B:=q0.count
    have s4:g.count≤10000000:=J
    simp+contextual (maxSteps:=1000000) (disch:=first|exact dB|fail) [go_sem,int_lt,-Int.not_le,-Int.not_lt,-List.map_set,jk,k1,k5,k2,k3,hi,MV,MW,n1,n2,n3,h4,hlen,dU]
    (repeat refine Alt.mk ?_)
    intro R dS dg a1 a2 a3 a4 a5 a6 a7
    have z1:=a2.aQ
    have z2:=a3.aQ
    have o1:=pO z1
    have o2:=pO z2
    unfold U.one at o1 o2
    rw[if_pos ⟨o1,o2⟩]
    have c0:R.get I.n=some ⟨[.sl j 0 ws.length 1,.sl gb 0 m 26],true⟩:=by rw[a4 _ J];simp+arith
    have c2:R.get (I.n+1+1)=some ⟨[.al,.al],true⟩:=by rw[a4 _ J];simp+arith
    have c1:R.get (I.n+1)=some ⟨LZ e,true⟩:=by rw[a4 _ J];simp+arith
    obtain⟨A1,A2⟩:=zd (k:=e.op) (a:=e.a) (b:=e.b) hB.1 q0 q9
    generalize ag.asked g e.op e.a e.b=G at*
    have go:∀τ':af,R.n≤τ'.n→τ'.get gb=some ⟨bJ (gs.set i (G,dS,dg)),true⟩→(∀y,y<R.n→NE y gb→NE y (I.n+1+1)→τ'.get y=R.get y)→GG (.agg [.sl j 0 ws.length 1,.sl gb 0 m 26]) τ':=by
     intro τ' b1 b2 b3
     have b4:∀y,y<I.n→NE y gb→τ'.get y=I.get y:=by
      intro y y1 y2
      rw[b3 y J y2 aD,a4 y J]
      simp only[show ¬y=I.n+1+1 by omega,show ¬y=I.n+1 by omega,show ¬y=I.n by omega,if_false]
     have e3:NV (I.n+1+1+1) R sv dS g.snap G.snap:= .inr ⟨a2,a5⟩
     have e4:NV (I.n+1+1+1) R pv dg g.ax G.ax:= .inr ⟨a3,a6⟩
     have e5:=(e3.fr b1 (fun y p1 p2=>b3 y p2 aD aD)).low (n:=I.n) J
     have e6:=(e4.fr b1 (fun y p1 p2=>b3 y p2 aD aD)).low (n:=I.n) J
     refine fin τ' _ gb ws (gs.set i (G,dS,dg)) (B+1) (by simp[List.map_set]) (hh.put uU J ((b4 j hj h3.symm).trans h.hw) b2 (fun y y1 _ y3=>b4 y y1 y3) h.W rfl ?_ J J) J (.inl rfl) (fun z hz ha=>kq.put ha hx hz e5 e6) (fun y y1 _ y3=>b4 y y1 y3)
     exact GA.nv Jb hj h2 lj J (fun y y1 _ y3=>b4 y y1 y3) A1 A2 e5 e6
    simp+contextual (maxSteps:=1000000) (disch:=first|exact dB|fail) [go_sem,int_lt,-Int.not_le,-Int.not_lt,-List.map_set,jk,hlen,c0,c1,c2,n1,n2,n3]
    (repeat refine Alt.mk ?_)
    rw[oB uU]
    refine go _ ?_ ?_ ?_
    ·simp only[au,az];omega
    ·(first|exact bn|fail)
    ·intro y y1 y2 y3
     (first|exact bn|fail)
   by_cases k4:e.kind=4
   ·obtain⟨N,hN⟩:∃N:Nat,(min e.n 400).toNat=N:=⟨_,rfl⟩
    have hN4:N≤400:=J
    have ho:uj ws (gs.map (·.1)) e=km i N (ws,gs.map (·.1)):=by unfold uj;rw[if_neg k1,if_neg k5,if_neg w5,if_neg k2,if_neg k3,if_pos k4,hit,hN]
    rw[ho]at fin
    simp+contextual (maxSteps:=1000000) (disch:=first|exact dB|fail) [go_sem,int_lt,-Int.not_le,-Int.not_lt,-List.map_set,jk,k1,k5,k2,k3,k4,hi,MV,MW]
    (repeat refine Alt.mk ?_)
    refine iO (fun σ1=>I.n+1+1<σ1.n∧(∀y,y<I.n→σ1.get y=I.get y)∧σ1.get I.n=some ⟨[.sl j 0 ws.length 1,.sl gb 0 m 26],true⟩∧σ1.get (I.n+1)=some ⟨LZ e,true⟩∧σ1.get (I.n+1+1)=some ⟨[.al,.al],true⟩) ?_ ?_
    ·exact⟨by simp only[au,az];omega,fp,aI,aI,aI⟩
    rintro σ1 ⟨x1,x2,x3,x4,x5⟩
    refine aC (fun R_ env R=>∃(u:Nat),∃(iL:List Int),∃(tf:List (ag×U×U)),env 2= .ptr I.n 0∧env 3= .ptr (I.n+1) 0∧env 4= .ptr (I.n+1+1) 0∧env 5= .int .i64 u∧R_ (N-u)∧(DoL I lo B j gb m N i e ws gs u iL tf R)) (by rintro R_ env R ⟨u,iL,tf,e2,e3,e4,e5,cz,hD⟩;exact⟨_,cz,u,iL,tf,e2,e3,e4,e5,rfl,hD⟩) ⟨0,ws,gs,aq,aq,aq,aq,trivial,?_⟩ ?_
    rotate_left 1
    rintro m_ env R ⟨u,iL,tf,e2,e3,e4,e5,rfl,hD⟩
    ·have Z2:=hD
     obtain⟨un,DW,Dl,st,d0,d1,d2,nn,Et,PH⟩:=hD
     by_cases hu:u<N
     ·have u1:¬e.n≤(u:Int):=J
      have u2:¬(400:Int)≤(u:Int):=J
      simp+contextual (maxSteps:=1000000) (disch:=first|exact dB|fail) [go_sem,int_lt,-Int.not_le,-Int.not_lt,-List.map_set,jk,e2,e3,e4,e5,d0,d1,d2,u1,u2,hi]
      (repeat refine Alt.mk ?_)
      refine aw (Ff R lo (B+2*u) j _ gb iL tf DW i J J) ?_
      rintro x τ2 fz ⟨YJ,TX,rfl,f1,f2,f3,f4,f5⟩
      have t0:τ2.get I.n=some ⟨[.sl j 0 iL.length 1,.sl gb 0 m 26],true⟩:=(f5 _ J aD aD).trans d0
      have t1:τ2.get (I.n+1)=some ⟨LZ e,true⟩:=(f5 _ J aD aD).trans d1
      have t2:τ2.get (I.n+1+1)=some ⟨[.al,.al],true⟩:=(f5 _ J aD aD).trans d2
      simp+contextual (maxSteps:=1000000) (disch:=first|exact dB|fail) [go_sem,int_lt,-Int.not_le,-Int.not_lt,-List.map_set,jk,e2,e3,e4,e5,t0,t1,t2]
      (repeat refine Alt.mk ?_)
      have l2:TX.length=tf.length:=by
       have:=congrArg List.length f2
       rw[A_]at this
       simpa using this
      refine⟨u+1,J,J,YJ,TX,⟨J,?_,J,?_,bo _ _,by rw[ai J];exact t1,by rw[ai J];exact t2,bj,?_,fun z z1 z2=>f4 z J (PH z z1 z2)⟩⟩
      ·refine((f3.outs (z:=I.n) bj aD aD (f4 _ J (PH _ (h.RN (Nat.le_refl _)) J)) (fun y q1 q2=>by(first|exact bn|fail))).le ?_ ?_)<;>omega
      ·rw[←st,show N-u=(N-(u+1))+1 by omega,km,←f1,←f2]
      ·intro y y1 y2 y3
       rw[ai J,f5 y J y2 y3,Et y y1 y2 y3]
     ·have po:u=N:=J
      have ln:(iL,tf.map (·.1))=km i N (ws,gs.map (·.1)):=by rw[←st,po,Nat.sub_self];rfl
      have done:GG (.agg [.sl j 0 iL.length 1,.sl gb 0 m 26]) (R.set (I.n+1+1) ⟨[.sl j 0 iL.length 1,.sl gb 0 m 26],true⟩):=by
       refine fin _ _ gb iL tf (B+2*u) ln (DW.outs (z:=I.n+1+1) bj aD aD (PH _ (h.RN J) J) (fun y q1 q2=>by(first|exact bn|fail))) J (.inl rfl) (fun z hz ha=>PH z ha J) ?_
       intro y y1 y2 y3
       rw[ai J,Et y y1 y2 y3]
      have u1:e.n≤(u:Int)∨(¬e.n≤(u:Int)∧(400:Int)≤(u:Int)):=J
      rcases u1 with u1|⟨u1,u2⟩
      ·simp+contextual (maxSteps:=1000000) (disch:=first|exact dB|fail) [go_sem,int_lt,-Int.not_le,-Int.not_lt,-List.map_set,jk,e2,e3,e4,e5,d0,d1,d2,u1]
       (repeat refine Alt.mk ?_)
       exact done
      ·simp+contextual (maxSteps:=1000000) (disch:=first|exact dB|fail) [go_sem,int_lt,-Int.not_le,-Int.not_lt,-List.map_set,jk,e2,e3,e4,e5,d0,d1,d2,u1,u2]
       (repeat refine Alt.mk ?_)
       exact done
    ·exact⟨Nat.zero_le _,by simpa using hh.frame J x2,rfl,rfl,x3,x4,x5,x1,fun y y1 _ _=>x2 y y1,fun z hz _=>hz⟩
   ·have ho:uj ws (gs.map (·.1)) e=(ws,gs.map (·.1)):=by unfold uj;rw[if_neg k1,if_neg k5,if_neg w5,if_neg k2,if_neg k3,if_neg k4]
    rw[ho]at fin
    have f1:∀R:af,I.n≤R.n→(∀y,y<I.n→R.get y=I.get y)→GG (.agg [.sl j 0 ws.length 1,.sl gb 0 m 26]) R:=fun R hn hf=>fin R _ gb ws gs B rfl (hh.frame hn hf) J (.inl rfl) (fun _ _ h=>h) (fr R hf)
    clear fin hh
    simp+contextual (maxSteps:=1000000) (disch:=first|exact dB|fail) [go_sem,int_lt,-Int.not_le,-Int.not_lt,-List.map_set,jk,k1,k5,k2,k3,k4,hi,MV,MW]
    (repeat refine Alt.mk ?_)
    exact f1 _ bc fp
end AH
namespace AH
open Go Go.Proofs Ho
set_option maxHeartbeats 4000000
structure PI(B:Int)(n:Nat)(w:List Int×List ag):Prop where
 len:w.1.length=n
 W:∀x∈w.1,ci x
 G:∀g∈w.2,GI B g∧kY g
theorem PI.le{B C:Int}{n:Nat}{w:List Int×List ag}(h:PI B n w)(hB:B≤C):PI C n w:=⟨h.len,h.W,fun g hg=>⟨(h.G g hg).1.le hB,(h.G g hg).2⟩⟩
theorem As{gs:List ag}{i:Nat}(h:(gs.getD i ag.zero).up=true):gs.getD i ag.zero∈gs:=by
 rw[List.getD_eq_getElem?_getD]at h⊢
 cases hi:gs[i]? with
 |none=>rw[hi]at h;cases h
 |some g=>exact List.mem_of_getElem? hi
theorem PI.set{B:Int}{n:Nat}{ws ws':List Int}{gs:List ag}(h:PI B n (ws,gs))(hl:ws'.length=ws.length)(hW:∀x∈ws',ci x){g:ag}(hg:GI B g∧kY g)(i:Nat):PI B n (ws',gs.set i g):=by
 refine⟨hl.trans h.len,hW,fun x hx=>?_⟩
 rcases List.mem_or_eq_of_mem_set hx with hx|rfl
 ·exact h.G x hx
 ·exact hg
theorem PI.one{B:Int}{n:Nat}{ws:List Int}{gs:List ag}(hB:1≤B)(h:PI B n (ws,gs))(i:Nat):PI (B+2) n ((nC ws gs i).1,(nC ws gs i).2.1):=by
 unfold nC
 simp only
 split
 ·exact h.le J
 ·rename_i hn
  have hu:(gs.getD i ag.zero).up=true:=by
   cases hq:(gs.getD i ag.zero).up with
   |true=>rfl
   |false=>exact absurd (.inl hq) hn
  have hb:(gs.getD i ag.zero).busy=true:=by
   cases hq:(gs.getD i ag.zero).busy with
   |true=>rfl
   |false=>exact absurd (.inr hq) hn
  obtain⟨⟨r1,r2⟩,⟨r3,r4⟩,r5,r6⟩:=fG ws
  have hs:=yp (c:=(check ws).1) (ws:=ws) hB (h.G _ (As hu)).1 h.W J
  have h2:(B+1+1:Int)=B+2:=J
  exact(h.le (C:=B+2) J).set hs.l hs.W ⟨h2▸hs.g,A4 _ _ _ hb⟩ i
theorem PI.steps{n:Nat}(i:Nat):∀(k:Nat) (B:Int) (w:List Int×List ag),1≤B→PI B n w→PI (B+2*k) n (km i k w):=by
 intro k
 induction k with
 |zero=>intro B w _ h;simpa[km]using h
 |succ k ih=>
  intro B w hB h
  have:=ih (B+2) _ J (PI.one (ws:=w.1) (gs:=w.2) hB h i)
  unfold km
  exact this.le J
theorem PI.do{B:Int}{n:Nat}{ws:List Int}{gs:List ag}(hB:1≤B)(h:PI B n (ws,gs))(e:Ev):PI (B+800) n (uj ws gs e):=by
 unfold uj
 split
 ·unfold qa
  split
  ·rename_i hh
   obtain⟨⟨r1,r2⟩,_⟩:=fG ws
   refine⟨h.len,h.W,fun g hg=>?_⟩
   rcases List.mem_append.1 hg with hg|hg
   ·exact⟨(h.G g hg).1.le J,(h.G g hg).2⟩
   ·obtain rfl:=List.mem_singleton.1 hg
    exact⟨mZ J J,fun _=>rfl⟩
  ·exact h.le J
 split
 ·exact⟨(qR ws e.n).trans h.len,wv h.W _,fun g hg=>⟨(h.G g hg).1.le J,(h.G g hg).2⟩⟩
 split
 ·exact h.le J
 rename_i hw
 have hm:gs.getD e.aX.toNat ag.zero∈gs:=by
  have:e.aX.toNat<gs.length:=J
  rw[List.getD_eq_getElem?_getD,List.getElem?_eq_getElem this]
  exact List.getElem_mem _
 have hg:=h.G _ hm
 split
 ·refine PI.set (g:={gs.getD e.aX.toNat ag.zero with up:=false}) (h.le (C:=B+800) J) rfl h.W ⟨?_,hg.2⟩ _
  obtain⟨d1,d2,d3,d4,d5,d6,d7,d8,d9,d10,d11,d12,d13,d14,d15,d16,d17,d18,d19,d20,d21,d22,d23,d24⟩:=hg.1.le (show B≤B+800 by omega)
  exact⟨d1,d2,d3,d4,d5,d6,d7,d8,d9,d10,d11,d12,d13,d14,d15,d16,d17,d18,d19,d20,d21,d22,d23,d24⟩
 split
 ·have ha:=zd hB hg.1 hg.2 e.op e.a e.b
  exact(h.le (C:=B+800) J).set rfl h.W ⟨ha.1.le J,ha.2⟩ _
 split
 ·exact(PI.steps _ _ B _ hB h).le J
 ·exact h.le J
end AH
