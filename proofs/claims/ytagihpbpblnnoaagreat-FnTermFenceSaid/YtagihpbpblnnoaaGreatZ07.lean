import Derived.Test.YtagihpbpblnnoaaGreatZ04
import Derived.Test.YtagihpbpblnnoaaGreatZ00
set_option linter.all false
namespace AH
open Go Ho
def Sl(I:af)(v:U)(cs:List U):Prop:=
 (v= .al∧cs=[])∨∃i k B,v= .sl i k cs.length 1∧i<I.n∧I.get i=some B∧k+cs.length≤B.cells.length∧(B.cells.drop k).take cs.length=cs
def Ws(I:af)(v:U)(ws:List Int):Prop:=Sl I v (ws.map (.int .u64))∧∀w∈ws,ci w
def Is(I:af)(v:U)(xs:List Int):Prop:=Sl I v (xs.map (.int .i64))
theorem Sl.keeps{I R:af}{v:U}{cs:List U}(h:Sl I v cs)(hk:bY I.n I R)(hn:I.n≤R.n):Sl R v cs:=by
 rcases h with h|⟨i,k,B,h1,h2,h3,h4,h5⟩
 ·exact .inl h
 ·exact .inr ⟨i,k,B,h1,J,(hk i h2).trans h3,h4,h5⟩
theorem Ws.keeps{I R:af}{v:U}{ws:List Int}(h:Ws I v ws)(hk:bY I.n I R)(hn:I.n≤R.n):Ws R v ws:=⟨h.1.keeps hk hn,h.2⟩
theorem Is.keeps{I R:af}{v:U}{xs:List Int}(h:Is I v xs)(hk:bY I.n I R)(hn:I.n≤R.n):Is R v xs:=Sl.keeps h hk hn
theorem Sl.lt{I:af}{v:U}{cs:List U}(h:Sl I v cs):v.lt I.n=true:=by
 rcases h with⟨rfl,_⟩|⟨i,k,B,rfl,h2,_⟩
 ·rfl
 ·simp[U.lt,h2]
theorem cell_of{B:cT}{k:Nat}{cs:List U}(h4:k+cs.length≤B.cells.length)(h5:(B.cells.drop k).take cs.length=cs)(j:Nat)(hj:j<cs.length):B.cells[k+j]? =cs[j]? :=by
 rw[←h5]
 rw[List.getElem?_take,if_pos hj,List.getElem?_drop]
theorem at_mem{ws:List Int}{j:Int}(h:0≤j∧j<ws.length):at_ ws j∈ws:=by
 unfold at_
 rw[List.getD_eq_getElem?_getD,List.getElem?_eq_getElem J]
 exact List.getElem_mem _
theorem bF{ws:List Int}(h:∀w∈ws,ci w)(j:Int):ci (at_ ws j):=by
 unfold at_
 rw[List.getD_eq_getElem?_getD]
 cases hj:ws[j.toNat]? with
 |none=>unfold ci;simp
 |some w=>exact h w (List.mem_of_getElem? hj)
structure kZ(kk:IntKind)(I:af)(i k:Nat)(xs:List Int):Prop where
 lt:i<I.n
 ex:∃B,I.get i=some B∧k+xs.length≤B.cells.length∧(B.cells.drop k).take xs.length=xs.map (.int kk)
theorem kZ.push{kk:IntKind}{I:af}{i k:Nat}{xs:List Int}(h:kZ kk I i k xs){B:cT}:kZ kk (I.push B) i k xs:=by
 obtain⟨h1,B',h2,h3⟩:=h
 exact⟨bX,B',by rw[ak h1];exact h2,h3⟩
theorem kZ.set{kk:IntKind}{I:af}{i k j:Nat}{xs:List Int}(h:kZ kk I i k xs){B:cT}(hj:i≠j):kZ kk (I.set j B) i k xs:=by
 obtain⟨h1,B',h2,h3⟩:=h
 exact⟨h1,B',by rw[ai hj];exact h2,h3⟩
theorem kZ.keeps{kk:IntKind}{I R:af}{n i k:Nat}{xs:List Int}(h:kZ kk I i k xs)(hk:bY n I R)(hi:i<n)(hn:I.n≤R.n):kZ kk R i k xs:=by
 obtain⟨h1,B',h2,h3⟩:=h
 exact⟨J,B',(hk i hi).trans h2,h3⟩
theorem kZ.cell{kk:IntKind}{I:af}{i k:Nat}{xs:List Int}(h:kZ kk I i k xs):
 ∃B,I.get i=some B∧k+xs.length≤B.cells.length∧(B.cells.drop k).take xs.length=xs.map (.int kk)∧∀(j:Nat),j<xs.length→B.cells[k+j]? =some (.int kk (at_ xs j)):=by
 obtain⟨h1,B,h2,h3,h4⟩:=h
 refine⟨B,h2,h3,h4,fun j hj=>?_⟩
 rw[cell_of (cs:=xs.map (.int kk)) (by simpa using h3) (by simpa using h4) j (by simpa using hj)]
 simp[at_,hj]
theorem fT{kk:IntKind}{ws:List Int}{a:Int}(h0:0≤a)(h1:a<ws.length):(ws.map (U.int kk))[a.toNat]? =some (.int kk (at_ ws a)):=by
 have:a.toNat<ws.length:=J
 simp[at_,this]
theorem jH{kk:IntKind}{ws:List Int}{a x:Int}(h0:0≤a)(h1:a<ws.length):aB (ws.map (U.int kk)) a.toNat [.int kk x]=(ws.set a.toNat x).map (U.int kk):=by
 unfold aB
 have:a.toNat<ws.length:=J
 rw[List.map_set,List.set_eq_take_append_cons_drop]
 simp[this]
theorem C8(ws:List Int)(a:Int)(h:a.toNat<ws.length):ws[a.toNat]=at_ ws a:=by simp[at_,h]
theorem nM{kk:IntKind}{xs:List Int}{n:Nat}{a:U}(h:a∈xs.map (U.int kk)):a.lt n=true:=by
 obtain⟨x,_,rfl⟩:=List.mem_map.1 h;rfl
attribute [go_sem] fT jH C8
theorem kZ.own{kk:IntKind}{I:af}{i:Nat}{xs:List Int}{rw:Bool}(hi:i<I.n)(h:I.get i=some ⟨xs.map (.int kk),rw⟩):kZ kk I i 0 xs:=
 ⟨hi,_,h,aV,by rw[List.drop_zero,List.take_of_length_le aV]⟩
theorem kZ.load{P:Program}{kk:IntKind}{I:af}{i k:Nat}{xs:List Int}(h:kZ kk I i k xs){t:TypeId}{n:Nat}(ht:fq P t=some (false,n))(j:Nat)(hj:j<xs.length):
 ja P t (.ptr i (k+j)) I=some (.int kk (at_ xs j)):=by
 obtain⟨B,h1,_,_,h4⟩:=h.cell
 simp only[ja,h1,ht,h4 j hj]
end AH
