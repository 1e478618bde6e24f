/- For every input the law FnTermFence returns true, and what came in reads behind the call as it did. No condition. -/
import Derived.Test.YtagihpbpblnnoaaGreatRows
import Derived.Test.YtagihpbpblnnoaaGreatZTfAll
import Derived.Test.YtagihpbpblnnoaaGreatZ09
import Derived.WalkKit
import Derived.ProofKit
import Derived.OpenShut
import Derived.ShutString
import Derived.ChangeOld
import Derived.Below
import Derived.SizedLaws
import Derived.Carry
import Derived.Test.YtagihpbpblnnoaaGreatZ00
set_option linter.all false
namespace Go.Proofs.YtagihpbpblnnoaaGreat.aah
open Go.ChangeShapes Go.WideShapes Go.ChangeAt Go.RowKit
theorem own:ownKnob Tryz.prog.godebug=none:=by kernel_rfl
theorem laidOut:laidOutB Tryz.prog=true:=by kernel_rfl
def H0(k:IntKind)(w:World)(a:Option Addr)(len cap:Nat)(zs:List Int):Prop:=
 (a=none∧len=0∧cap=0∧zs=[])∨
 ∃x,a=some x∧len≤cap∧cap≤maxLen∧zs.length=cap∧(∀i,i<zs.length→w.cell? (x.add i)=some (.int k (zs.getD i 0)))∧∀n∈zs,(Lit.int k n).wf=true
set_option maxRecDepth 100000 in
set_option maxHeartbeats 16000000 in
theorem lifted(os:Os)(started:os.Started)(H:Type)(enc:TypeId×Value→H):
 ReturnsInHanded {} Tryz.checked os 4 .any (Rows.fnTermFenceSpec.pre6 enc Tryz.prog Tryz.f4 Rows.fnTermFenceRow.domain false) (Rows.fnTermFenceSpec.post enc Tryz.prog Tryz.f4 false true false false):=by
 refine returnsInHanded_of_change_sized (C:=Tryz.checked) own started (by kernel_rfl) Tryz.func4
  (ChangeSpec.witness6 (enc:=enc) (C:=Tryz.checked) false ⟨#[],#[.slice none 0 0],[]⟩ 8 (by kernel_rfl) (by kernel_rfl) (by kernel_rfl) (by kernel_rfl)) ?_
 intro W base args ds gs before JM hW aau UK _
 have Dr:∀(j:Nat) t v,Tryz.f4.params[j]? =some t→args[j]? =some v→Value.okWide Tryz.prog W .any base t v:=JM
 have Z_:=hW
 obtain⟨p,q,Z1,hV,rfl,BP,hnd⟩:=hW
 have hA:DataW.TrodAll enc Tryz.prog W 0 (fun _=>true) true Tryz.f4.params.toList args.toList ds p:=Z1
 rw[Tryz.params4]at hA Dr
 obtain⟨v0,vs0,d0,ds0,p0,q0,vM,rfl,rfl,h0,r0⟩:=trodAll_cons hA
 obtain⟨rfl,rfl,rfl⟩:=trodAll_nil r0
 obtain rfl:args= #[v0]:=by cases args;simp_all
 obtain⟨rfl,rfl⟩:=trodVars_none hV
 obtain⟨a0,Q6,PA,rfl⟩:=okWide_slice Tryz.underlying22 (Dr 0 22 _ rfl rfl)
 have o0:=Dr 0 22 _ rfl rfl
 have k0:=h0
 have SN:∀x∈p0,x.block<W.heap.size:=by obtain⟨m,hm⟩:=k0;exact DataW.trod_lt m _ _ _ hm
 obtain⟨z0,w0⟩:∃zs,H0 .u8 W a0 Q6 PA zs:=by
  obtain⟨fuel,hf⟩:=h0
  rcases open_ints Tryz.underlying22 Tryz.underlying5 (by kernel_rfl) hf with⟨uz,_⟩|⟨x,l,c,zs,uz,_,hl,hm,hz,_,fy,O'⟩
  ·simp[Value.cells]at uz
   obtain⟨rfl,rfl,rfl⟩:=uz
   exact⟨[],.inl ⟨rfl,rfl,rfl,rfl⟩⟩
  ·simp[Value.cells]at uz
   obtain⟨rfl,rfl,rfl⟩:=uz
   exact⟨zs,.inr ⟨_,rfl,hl,hm,by simpa using hz,fy,O'⟩⟩
 obtain⟨ZE,l0,m0,g0,e0⟩:=AH.Em 0 Tryz.underlying22 o0 w0
 refine(AH.Vi g0 fun I x0=>AH.aaN I ZE l0 x0 g0.rng).mono fun e W' ⟨he,Tt⟩=>?_
 subst he
 exact⟨_,rfl,_,_,_,[],_,[],Z_,trodAll_mk1 (shut_bool Tryz.underlying4 _),(trodAll_cons_mk (Below.trod laidOut (by kernel_rfl) (of_decide_eq_true (by kernel_rfl)) k0 Tt SN) trodAll_mk0),rfl,Tt.frame _,fun h=>by cases h⟩
set_option maxRecDepth 100000 in
set_option maxHeartbeats 16000000 in
theorem closed:joinedFacts Tryz.pinned.checked.prog 4 Tryz.f4 Rows.fnTermFenceSpec Rows.fnTermFenceRow=true:=by
 simp only[joinedFacts,Bool.and_eq_true]
 repeat' refine And.intro ?_ ?_
 all_goals as_aux_lemma=>kernel_rfl
theorem Rb:Rows.fnTermFenceRow.holds Tryz.pinned (OpenSpec.ofChange Rows.fnTermFenceSpec):=
 OpenClaim.holds_of_wide 4 Tryz.f4 rfl rfl rfl rfl rfl rfl rfl ⟨rfl,rfl,rfl,rfl,rfl⟩ rfl rfl rfl rfl rfl (by kernel_rfl) Tryz.func4 closed
  (of_decide_eq_true (by kernel_rfl)) (by unfold Func.isWrapper;first|(rw[if_pos IW];kernel_rfl)|(rw[if_neg IW];exact⟨rfl,rfl⟩))
  (fun os started H enc _=>lifted os started H enc)
theorem proved:Rows.FnTermFenceSaid:=Rb
#print axioms proved
end Go.Proofs.YtagihpbpblnnoaaGreat.aah
namespace Go.Proofs.YtagihpbpblnnoaaGreat
theorem fnTermFence_holds:Rows.FnTermFenceSaid:=aah.proved
end Go.Proofs.YtagihpbpblnnoaaGreat
