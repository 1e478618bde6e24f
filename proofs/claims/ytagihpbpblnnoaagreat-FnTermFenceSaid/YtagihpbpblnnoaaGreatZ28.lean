import Derived.Test.YtagihpbpblnnoaaGreatZ09
import Derived.Test.YtagihpbpblnnoaaGreatZ15
import Derived.Test.YtagihpbpblnnoaaGreatZ00
set_option linter.all false
namespace AH
open Ho
def HR(b:Bk):Prop:=b.owner.length=b.ah.length*8∧∀k,k<4→∀x∈b.aj k,0≤x∧x<b.owner.length
theorem HR.of{b:Bk}(hb:cm b):HR b:=⟨hb.1.1.2.2.2.2.2.2,fun k hk x hx=>⟨(count_le hb hk hx).2.1,(count_le hb hk hx).2.2.1⟩⟩
theorem HR.bC{b:Bk}(h:HR b){p k:Int}(h0:0≤p)(h1:p+1≤b.ah.length)(hk:k=0∨k=1∨k=2∨k=3):HR (bC b p k):=by
 obtain⟨a1,a2⟩:=h
 refine⟨by simp only[Ho.bC,aF];exact a1,fun j hj x hx=>?_⟩
 simp only[Ho.bC,cE]at hx⊢
 split at hx
 ·rcases List.mem_append.1 hx with hx|hx
  ·exact a2 _ J x hx
  ·unfold dj at hx
   obtain⟨i,hi,rfl⟩:=List.mem_map.1 hx
   have hi:=List.mem_range.1 hi
   rcases hk with rfl|rfl|rfl|rfl
   ·have hi:i<8:=hi
    show 0≤p*8+(i:Int)*1∧p*8+(i:Int)*1<_;omega
   ·have hi:i<4:=hi
    show 0≤p*8+(i:Int)*2∧p*8+(i:Int)*2<_;omega
   ·have hi:i<2:=hi
    show 0≤p*8+(i:Int)*4∧p*8+(i:Int)*4<_;omega
   ·have hi:i<1:=hi
    show 0≤p*8+(i:Int)*8∧p*8+(i:Int)*8<_;omega
 ·exact a2 _ hj x hx
theorem HR.take{b:Bk}(h:HR b)(slot aW:Int):HR (cI b slot aW).1:=by
 have go:∀(b:Bk) (k:Nat) (o:List Int),HR b→o.length=b.owner.length→HR {b with aj:=cE b.aj k (b.aj k).tail,owner:=o}:=by
  intro b k o h ho
  obtain⟨a1,a2⟩:=h
  refine⟨by simp only;omega,fun j hj x hx=>?_⟩
  simp only[cE]at hx⊢
  split at hx
  ·rename_i e;subst e;have:=a2 j hj x (List.mem_of_mem_tail hx);omega
  ·have:=a2 j hj x hx;omega
 unfold cI
 dsimp only
 split
 ·exact h
 split
 ·split
  ·exact h
  ·refine⟨by simp only[eL,aF];exact h.1,fun j hj x hx=>?_⟩
   have:=h.2 j hj x hx
   simp only[aF];exact this
 rename_i Uo uV
 split
 ·split
  ·exact h
  ·rename_i hr
   have:=ie b.ah 1
   have sf:bB aW=0∨bB aW=1∨bB aW=2∨bB aW=3:=by
    have: -1≤bB aW∧bB aW≤4:=by unfold bB;(repeat' split)<;>omega
    omega
   exact go _ _ _ (h.bC J J sf) IS
 ·exact go _ _ _ h IS
theorem HR.back{b:Bk}(h:HR b){a:Int}(h0:0≤a)(h1:a<b.owner.length):HR (ej b a):=by
 obtain⟨a1,a2⟩:=h
 have hl:∀j,j<4→∀x∈a::b.aj j,0≤x∧x<b.owner.length:=fun j hj x hx=>by
  rcases List.mem_cons.1 hx with rfl|hx
  ·exact⟨h0,h1⟩
  ·exact a2 j hj x hx
 unfold ej
 dsimp only
 split
 ·refine⟨by simp only[eL,aF];exact a1,fun j hj x hx=>?_⟩
  simp only[aF];exact a2 j hj x hx
 ·split
  ·refine⟨by simp only[aF];exact a1,fun j hj x hx=>?_⟩
   simp only[aF]
   simp only[cE]at hx
   split at hx
   ·rename_i e;subst e;exact hl _ hj x (List.mem_filter.1 hx).1
   ·exact a2 j hj x hx
  ·refine⟨by simp only[aF];exact a1,fun j hj x hx=>?_⟩
   simp only[aF]
   simp only[cE]at hx
   split at hx
   ·rename_i e;subst e;exact hl _ hj x hx
   ·exact a2 j hj x hx
theorem wx{b:Bk}{slot a:Int}(h:¬0<fU b slot a):0≤a∧a<b.owner.length:=by
 unfold fU e_ at h
 by_cases h1:a<0∨(b.owner.length:Int)≤a
 ·simp[h1]at h
 ·omega
theorem HR.Rl{b:Bk}(h:HR b)(slot:Int):HR (dX b slot).1:=by
 unfold dX
 (repeat' split)<;>first|exact h|exact⟨h.1,h.2⟩|skip
 rename_i hf
 have:=kz b.owner (slot+1) 0
 unfold gO at hf⊢
 exact h.back J J
theorem HR.own{b:Bk}(h:HR b)(op:Op):HR (eH b op).1:=by
 unfold eH
 split
 ·exact h.take _ _
 split
 ·split
  ·exact h
  ·rename_i hw;exact h.back (wx hw).1 (wx hw).2
 split
 ·(repeat' split)<;>first|exact h|skip
  exact⟨by simp only[aF];exact h.1,fun j hj x hx=>by simp only[aF];exact h.2 j hj x hx⟩
 split
 ·(repeat' split)<;>first|exact h|exact⟨h.1,h.2⟩
 split
 ·exact h.Rl _
 ·exact h
theorem HR.do{b:Bk}(h:HR b)(op:Op):HR (kV b op).1:=by
 unfold kV
 (repeat' split)<;>first|exact h|exact⟨h.1,h.2⟩|exact h.own op
end AH
