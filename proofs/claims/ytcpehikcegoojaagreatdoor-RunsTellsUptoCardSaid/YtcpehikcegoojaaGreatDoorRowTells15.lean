/-
  The law RunsTells, where what is read is of bulk at most 1048576: for every input it returns true, and its arguments read behind the call as before; its card, tied to the program's text. Conditions: none.
-/
import Derived.Test.YtcpehikcegoojaaGreatDoorJn15
import Derived.Deep.DeepHandedRow
import Derived.Test.YtcpehikcegoojaaGreatDoorTie
import Derived.Test.YtcpehikcegoojaaGreatDoorCards
set_option linter.unusedSimpArgs false
set_option linter.unusedVariables false
namespace Go.Proofs.YtcpehikcegoojaaGreatDoor
open Go.ChangeShapes Go.WideShapes Go.ChangeAt Go.RowKit Go.Deep
set_option maxRecDepth 100000 in
theorem Br (os:Os) {H:Type} (enc:TypeId × Value→H):∃ places,DataW.whole enc Tryz.prog ((World.doorLaid Tryz.prog 14 os).forCall (fun _ _=>0) ⟨#[],#[.agg #[.string ByteArray.empty,.slice none 0 0,.slice none 0 0,.slice none 0 0,.int .u8 0,.int .u8 0,.int .u8 0,.int .u8 0,.int .u8 0,.slice none 0 0],.int .u8 0,.int .i64 0,.agg (Array.replicate 38 (.int .u8 0))],[]⟩).memory Tryz.f3.params.toList Rows.runsTellsSpec.vars false (#[.agg #[.string ByteArray.empty,.slice none 0 0,.slice none 0 0,.slice none 0 0,.int .u8 0,.int .u8 0,.int .u8 0,.int .u8 0,.int .u8 0,.slice none 0 0],.int .u8 0,.int .i64 0,.agg (Array.replicate 38 (.int .u8 0))]:Array Value).toList 8=some ([.agg [.lit (.string []),.nil,.nil,.nil,.lit (.int .u8 0),.agg [.lit (.int .u8 0),.lit (.int .u8 0),.lit (.int .u8 0),.lit (.int .u8 0),.nil]],.lit (.int .u8 0),.lit (.int .i64 0),.agg [.agg (List.replicate 4 (.agg (List.replicate 8 (.lit (.int .u8 0))))),.agg (List.replicate 6 (.lit (.int .u8 0)))]],[],places):=
 ⟨[],by kernel_rfl⟩
set_option maxRecDepth 100000 in
theorem runsTells_lifted (os:Os) (started:os.Started) (H:Type) (enc:TypeId × Value→H) (F:Stop.Interp) :
   ReturnsInHanded {} Tryz.checked os 3 .any ((Rows.OpenSpec.upto Rows.runsTellsSpec).preRow enc Tryz.prog Tryz.f3 Rows.runsTellsUptoRow.domain false Rows.runsTellsUptoRow.laid) (((Rows.OpenSpec.upto Rows.runsTellsSpec).at F).post enc Tryz.prog Tryz.f3 false true false false):=by
 obtain ⟨places,hx⟩:=Br os enc
 refine returnsInHanded_of_row (C:=Tryz.checked) (s:=Rows.OpenSpec.upto Rows.runsTellsSpec) Xhp started (by kernel_rfl) Tryz.func3
   (witness_row_at (enc:=enc) (C:=Tryz.checked) false (World.doorLaid Tryz.prog 14 os) #[.agg #[.string ByteArray.empty,.slice none 0 0,.slice none 0 0,.slice none 0 0,.int .u8 0,.int .u8 0,.int .u8 0,.int .u8 0,.int .u8 0,.slice none 0 0],.int .u8 0,.int .i64 0,.agg (Array.replicate 38 (.int .u8 0))] rfl (by kernel_rfl) (by kernel_rfl) (by kernel_rfl)
     (OpenSpec.preRow_of_cond 8 hx (by kernel_rfl) (fun k hk=>by cases hk;kernel_rfl) (by kernel_rfl) (laidMet_of_run' 8 (by kernel_rfl) (by kernel_rfl)))) ?_
 intro W base args ds gs before hval0 hW _ hcond hsz0 hL _ _
 have hval:∀ (j:Nat) t v,Tryz.f3.params[j]? = some t→args[j]? = some v→Value.okWide Tryz.prog W .any base t v:=hval0
 have hW':=hW
 obtain ⟨p,q,hA0,hV,rfl,hfz,hnd⟩:=hW
 have hA:DataW.TrodAll enc Tryz.prog W 0 (fun _=>true) true Tryz.f3.params.toList args.toList ds p:=hA0
 rw [Tryz.params3] at hA hval
 obtain ⟨v0,vs0,d0,ds0,p0,q0,hargs0,rfl,rfl,h0,r0⟩:=trodAll_cons hA
 obtain ⟨v1,vs1,d1,ds1,p1,q1,hargs1,rfl,rfl,h1,r1⟩:=trodAll_cons r0
 obtain ⟨v2,vs2,d2,ds2,p2,q2,hargs2,rfl,rfl,h2,r2⟩:=trodAll_cons r1
 obtain ⟨v3,vs3,d3,ds3,p3,q3,hargs3,rfl,rfl,h3,r3⟩:=trodAll_cons r2
 obtain ⟨rfl,rfl,rfl⟩:=trodAll_nil r3
 subst hargs1;subst hargs2;subst hargs3
 obtain rfl:args = #[v0,v1,v2,v3]:=by cases args;simp_all
 obtain ⟨rfl,rfl⟩:=trodVars_none hV
 have hN:=XaK hL
 have hk:=hcond _ rfl
 simp only [Rows.uptoSmall,decide_eq_true_eq] at hk
 obtain ⟨cs0,pr0,rfl,hP0,hD0⟩:=XjM (hval 0 29 v0 rfl rfl) h0
 obtain ⟨u1,rfl⟩:=a_u8 (hval 1 5 v1 rfl rfl) h1
 obtain ⟨n2,rfl,hlo2,hhi2⟩:=a_int (hval 2 3 v2 rfl rfl) h2
 obtain ⟨s3,rfl⟩:=XjN (hval 3 34 v3 rfl rfl) h3
 have hlt0:∀ x ∈ p0,x.block < W.heap.size:=by
   obtain ⟨fuel,hf⟩:=h0
   exact DataW.trod_lt _ _ _ _ hf
 have hlt1:∀ x ∈ p1,x.block < W.heap.size:=by
   obtain ⟨fuel,hf⟩:=h1
   exact DataW.trod_lt _ _ _ _ hf
 have hlt2:∀ x ∈ p2,x.block < W.heap.size:=by
   obtain ⟨fuel,hf⟩:=h2
   exact DataW.trod_lt _ _ _ _ hf
 have hlt3:∀ x ∈ p3,x.block < W.heap.size:=by
   obtain ⟨fuel,hf⟩:=h3
   exact DataW.trod_lt _ _ _ _ hf
 have hbulk:Rows.uptoBulk d0≤1048576:=Nat.le_trans (XaE (by simp)) hk
 clear hA0 hval0 hsz0
 simp only [List.append_nil] at hW'
 refine (Xaw cs0 pr0 W hP0 (by have:=hD0;omega) hN u1 n2 hlo2 hhi2 s3).mono fun e W' ⟨he,hb⟩=>?_
 subst he
 exact ⟨_,rfl,XaC (pa:=p0++(p1++(p2++(p3++[])))) (pv:=[]) hW' (fun _ _ _=>(trodAll_cons_mk (shut_bool Tryz.underlying4 _) trodAll_mk0))
   (fun sp hsp=>(trodAll_cons_mk (WideElems.Trod_stays (P:=Tryz.prog) D8 (by kernel_rfl) (of_decide_eq_true (by kernel_rfl)) h0 (fun x hx=>hb.same (hlt0 x hx)) (fun x hx=>hsp x (by simp [hx]))) (trodAll_cons_mk (WideElems.Trod_stays (P:=Tryz.prog) D8 (by kernel_rfl) (of_decide_eq_true (by kernel_rfl)) h1 (fun x hx=>hb.same (hlt1 x hx)) (fun x hx=>hsp x (by simp [hx]))) (trodAll_cons_mk (WideElems.Trod_stays (P:=Tryz.prog) D8 (by kernel_rfl) (of_decide_eq_true (by kernel_rfl)) h2 (fun x hx=>hb.same (hlt2 x hx)) (fun x hx=>hsp x (by simp [hx]))) (trodAll_cons_mk (WideElems.Trod_stays (P:=Tryz.prog) D8 (by kernel_rfl) (of_decide_eq_true (by kernel_rfl)) h3 (fun x hx=>hb.same (hlt3 x hx)) (fun x hx=>hsp x (by simp [hx]))) trodAll_mk0))))) (fun _ _=>rfl) (by simp)
   hb (ok_one (by kernel_rfl) rfl (okWide_bool_mk Tryz.underlying4 _))⟩
theorem runsTells_holds:Rows.RunsTellsUptoSaid:=
 OpenClaim.holds_of_cond 3 Tryz.f3 rfl rfl rfl rfl rfl rfl rfl ⟨rfl,rfl,rfl,rfl,rfl⟩ rfl rfl rfl rfl rfl (by kernel_rfl) Tryz.func3 (by kernel_rfl)
   (of_decide_eq_true (by kernel_rfl)) (by unfold Func.isWrapper;first | (rw [if_pos (by decide +kernel)];kernel_rfl) | (rw [if_neg (by decide +kernel)];exact ⟨rfl,rfl⟩))
   (fun os started H enc _ F=>by rw [OpenClaim.pre_eq_preRow];exact runsTells_lifted os started H enc F)
theorem runsTells_card:Rows.RunsTellsUptoCardSaid:=
 Claim7.holds_tied_plain_at .later [] [.data] true Rows.runsTellsUptoCard.stood.harness Rows.runsTellsUptoCard.stood.looks
   runsTells_holds (fun _ h=>by cases h) (by kernel_rfl) (fun _ h=>by cases h) runsTellsUpto_row_tie rfl ⟨rfl,rfl⟩ (by kernel_rfl) rfl
   (fun f fn hf hfn=>by
     obtain rfl : f = 3 := Option.some.inj ((show Tryz.prog.funcNamed "seisin/seisinlaw15.RunsTells" = some 3 by kernel_rfl).symm.trans hf) |>.symm
     obtain rfl:fn=Tryz.f3:=(Option.some.inj (Tryz.func3.symm.trans hfn)).symm
     exact ⟨by kernel_rfl,fun j t ht=>by
       rw [Tryz.params3] at ht
       have hm:t ∈ [29,5,3,34]:=by simpa using Array.mem_of_getElem? ht
       have hall:([29,5,3,34].all fun u=>!Tryz.prog.wantsStandIn u)=true:=by kernel_rfl
       exact (show Tryz.prog.wantsStandIn t=false by simpa using List.all_eq_true.1 hall t hm)⟩)
   (by kernel_rfl)
end Go.Proofs.YtcpehikcegoojaaGreatDoor
