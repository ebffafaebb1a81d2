/- The law TopSC: for every input it returns true, and its arguments read behind the call as before; its card, tied to the program's text. Conditions: none. -/
import Derived.Test.YtajfpcgbnflceaaGreatDoorJn22
import Derived.Test.YtajfpcgbnflceaaGreatDoorJn23
import Derived.Test.YtajfpcgbnflceaaGreatDoorTie
import Derived.Test.YtajfpcgbnflceaaGreatDoorCards
set_option linter.unusedSimpArgs false
set_option linter.unusedVariables false
namespace Go.Proofs.YtajfpcgbnflceaaGreatDoor
open Go.ChangeShapes Go.WideShapes Go.ChangeAt Go.RowKit Go.Deep
set_option maxRecDepth 100000 in
theorem topSC_lifted(n:Os)(d:n.Started)(H:Type)(c:TypeId×Value->H):
 ReturnsInHanded {} Tryz.checked n 3 .any (λw b=>(Rows.topSCSpec.pre c Tryz.prog Tryz.f3 [] false w b/\laidMetH Tryz.prog Dv w)/\sizedMet c Tryz.prog Tryz.f3 (OpenSpec.ofChange Rows.topSCSpec) false w b)
  (Rows.topSCSpec.post c Tryz.prog Tryz.f3 false true false false):=by
 refine returnsInHanded_of_change_and (C:=Tryz.checked) (X:=λw _=>laidMetH Tryz.prog Dv w) (λ_ _ _ hh h=>h.of_heap hh) Xln d Y Tryz.func3
  (ChangeSpec.witness_shaped (enc:=c) (C:=Tryz.checked) (os:=n) (X:=λw _=>laidMetH Tryz.prog Dv w) false (World.doorLaid Tryz.prog 14 n) #[.agg #[.string ByteArray.empty,.slice none 0 0,.slice none 0 0,.slice none 0 0,.int .u8 0,.int .u8 0,.int .u8 0,.int .u8 0,.int .u8 0,.slice none 0 0]] 8 Z (World.shaped_of_RefB Y Y) Y Y Y
   (laidMetH_of_parts3 (fuel:=8) (laidMet_of_run' 8 Y Y) Y Y)) ?_
 intro W m b ds gs z g N _ r G _
 have i:∀(j:Nat) t v,Tryz.f3.params[j]?=some t->b[j]?=some v->Value.okWide Tryz.prog W .any m t v:=g
 have s:=N
 obtain⟨p,q,o,hV,rfl,a3,a1⟩:=N
 have Q:DataW.TrodAll c Tryz.prog W 0 (λ_=>true) true Tryz.f3.params.toList b.toList ds p:=o
 rw[Tryz.params3]at Q i
 obtain⟨S,a2,d0,T,R,q0,A,rfl,rfl,B,V⟩:=trodAll_cons Q
 obtain⟨rfl,rfl,rfl⟩:=trodAll_nil V
 obtain rfl:b=#[S]:=by cases b;simp_all
 obtain⟨rfl,rfl⟩:=trodVars_none hV
 have hN:=C7 G
 have U:=Xc9 G
 have L:=Xbc G
 obtain⟨I,D,rfl,E⟩:=Xsg (i 0 29 S Z Z) B
 have y:∀x∈R,x.block<W.heap.size:=by
  obtain⟨u,hf⟩:=B
  exact DataW.trod_lt _ _ _ _ hf
 clear o g r
 simp only[Ak]at s
 refine(XhO I D W E hN U L).mono λe W' ⟨he,M⟩=>?_
 subst he
 exact⟨_,Z,CV (pa:=R++[]) (pv:=[]) s (λ_ _ _=>(trodAll_cons_mk (shut_bool Tryz.underlying4 _) trodAll_mk0))
  (λsp K=>(trodAll_cons_mk (WideElems.Trod_stays (P:=Tryz.prog) Xma Y (of_decide_eq_true Y) B (λx J=>M.same (y x J)) (λx J=>K x (by simp[J]))) trodAll_mk0)) (λ_ _=>rfl) (by simp)
  M (ok_one Y Z (okWide_bool_mk Tryz.underlying4 _))⟩
theorem topSC_holds:Rows.TopSCSaid:=
 OpenClaim.holds_of_wide 3 Tryz.f3 Z Z Z Z Z Z Z ⟨Z,Z,Z,Z,Z⟩ Z Z Z Z Z Y Tryz.func3 Y
  (of_decide_eq_true Y) (by unfold Func.isWrapper;first|(rw[if_pos (by decide +kernel)];kernel_rfl)|(rw[if_neg (by decide +kernel)];exact⟨Z,Z⟩))
  (λd b H c _=>topSC_lifted d b H c)
theorem topSC_card:Rows.TopSCCardSaid:=
 Claim7.holds_tied_plain_at .later [] [.data,.data,.data] true Rows.topSCCard.stood.harness Rows.topSCCard.stood.looks
  topSC_holds (λ_ h=>by cases h) Y (λ_ h=>by cases h) topSC_row_tie rfl ⟨rfl,rfl⟩ Y rfl
  (λf fn hf hfn=>by
   obtain rfl : f = 3 := Ac ((show Tryz.prog.funcNamed "seisin/seisintop.TopSC" = some 3 by kernel_rfl).symm.trans hf) |>.symm
   obtain rfl:fn=Tryz.f3:=(Ac (Tryz.func3.symm.trans hfn)).symm
   exact⟨Y,λj t ht=>by
    rw[Tryz.params3]at ht
    have hm:t∈[29]:=by simpa using Array.mem_of_getElem? ht
    have hall:([29].all λu=>!Tryz.prog.wantsStandIn u)=true:=by kernel_rfl
    exact(show Tryz.prog.wantsStandIn t=false by simpa using Ah.1 hall t hm)⟩)
  Y
end Go.Proofs.YtajfpcgbnflceaaGreatDoor
