/-
  The law PathTells, where what is read is of bulk at most 1048576: for every input it returns true, and its arguments read behind the call as before; its card, tied to the program's text. Conditions: none.
-/
import Derived.Test.YtagnefpgidbhnaaGreatDoorJn18
import Derived.Test.YtagnefpgidbhnaaGreatDoorJn19
import Derived.Deep.DeepHandedRow
import Derived.Test.YtagnefpgidbhnaaGreatDoorTie
import Derived.Test.YtagnefpgidbhnaaGreatDoorCards
set_option linter.unusedSimpArgs false
set_option linter.unusedVariables false
namespace Go.Proofs.YtagnefpgidbhnaaGreatDoor
open Go.ChangeShapes Go.WideShapes Go.ChangeAt Go.RowKit Go.Deep
set_option maxRecDepth 100000 in
theorem Gs (os:Os) {H:Type} (enc:TypeId × Value→H):∃ places,DataW.whole enc Tryz.prog ((World.doorLaid Tryz.prog 14 os).forCall (fun _ _=>0) ⟨#[],#[.slice none 0 0,.slice none 0 0,.slice none 0 0,.int .i64 0,.agg #[.string ByteArray.empty,.slice none 0 0,.slice none 0 0,.slice none 0 0,.int .u8 0,.int .u8 0,.int .u8 0,.int .u8 0,.int .u8 0,.slice none 0 0]],[]⟩).memory Tryz.f3.params.toList Rows.pathTellsSpec.vars false (#[.slice none 0 0,.slice none 0 0,.slice none 0 0,.int .i64 0,.agg #[.string ByteArray.empty,.slice none 0 0,.slice none 0 0,.slice none 0 0,.int .u8 0,.int .u8 0,.int .u8 0,.int .u8 0,.int .u8 0,.slice none 0 0]]:Array Value).toList 8=some ([.nil,.nil,.nil,.lit (.int .i64 0),.agg [.lit (.string []),.nil,.nil,.nil,.lit (.int .u8 0),.agg [.lit (.int .u8 0),.lit (.int .u8 0),.lit (.int .u8 0),.lit (.int .u8 0),.nil]]],[],places):=
 ⟨[],by kernel_rfl⟩
set_option maxRecDepth 100000 in
theorem pathTells_lifted (os:Os) (started:os.Started) (H:Type) (enc:TypeId × Value→H) (F:Stop.Interp) :
   ReturnsInHanded {} Tryz.checked os 3 .any ((Rows.OpenSpec.upto Rows.pathTellsSpec).preRow enc Tryz.prog Tryz.f3 Rows.pathTellsUptoRow.domain false Rows.pathTellsUptoRow.laid) (((Rows.OpenSpec.upto Rows.pathTellsSpec).at F).post enc Tryz.prog Tryz.f3 false true false false):=by
 obtain ⟨places,hx⟩:=Gs os enc
 refine returnsInHanded_of_row (C:=Tryz.checked) (s:=Rows.OpenSpec.upto Rows.pathTellsSpec) B6 started (by kernel_rfl) Tryz.func3
   (witness_row_at (enc:=enc) (C:=Tryz.checked) false (World.doorLaid Tryz.prog 14 os) #[.slice none 0 0,.slice none 0 0,.slice none 0 0,.int .i64 0,.agg #[.string ByteArray.empty,.slice none 0 0,.slice none 0 0,.slice none 0 0,.int .u8 0,.int .u8 0,.int .u8 0,.int .u8 0,.int .u8 0,.slice none 0 0]] rfl (by kernel_rfl) (by kernel_rfl) (by kernel_rfl)
     (OpenSpec.preRow_of_cond 8 hx (by kernel_rfl) (fun k hk=>by cases hk;kernel_rfl) (by kernel_rfl) (laidMet_of_run' 8 (by kernel_rfl) (by kernel_rfl)))) ?_
 intro W base args ds gs before hval0 hW _ hcond hsz0 hL _ _
 have hval:∀ (j:Nat) t v,Tryz.f3.params[j]? = some t→args[j]? = some v→Value.okWide Tryz.prog W .any base t v:=hval0
 have hW':=hW
 obtain ⟨p,q,hA0,hV,rfl,hfz,hnd⟩:=hW
 have hA:DataW.TrodAll enc Tryz.prog W 0 (fun _=>true) true Tryz.f3.params.toList args.toList ds p:=hA0
 rw [Tryz.params3] at hA hval
 obtain ⟨v0,vs0,d0,ds0,p0,q0,hargs0,rfl,rfl,h0,r0⟩:=trodAll_cons hA
 obtain ⟨v1,vs1,d1,ds1,p1,q1,hargs1,rfl,rfl,h1,r1⟩:=trodAll_cons r0
 obtain ⟨v2,vs2,d2,ds2,p2,q2,hargs2,rfl,rfl,h2,r2⟩:=trodAll_cons r1
 obtain ⟨v3,vs3,d3,ds3,p3,q3,hargs3,rfl,rfl,h3,r3⟩:=trodAll_cons r2
 obtain ⟨v4,vs4,d4,ds4,p4,q4,hargs4,rfl,rfl,h4,r4⟩:=trodAll_cons r3
 obtain ⟨rfl,rfl,rfl⟩:=trodAll_nil r4
 subst hargs1;subst hargs2;subst hargs3;subst hargs4
 obtain rfl:args = #[v0,v1,v2,v3,v4]:=by cases args;simp_all
 obtain ⟨rfl,rfl⟩:=trodVars_none hV
 have hN:=J3 hL
 have hk:=hcond _ rfl
 simp only [Rows.uptoSmall,decide_eq_true_eq] at hk
 have hT:=NO hL
 obtain ⟨A0,C0,l0,rfl,hB0,hc0,hn0,hnil0⟩:=Xak (hval 0 22 v0 rfl rfl) h0
 obtain ⟨A1,C1,l1,rfl,hB1,hc1,hn1,hnil1⟩:=BF (hval 1 23 v1 rfl rfl) h1
 obtain ⟨A2,C2,l2,rfl,hB2,hc2,hn2,hnil2⟩:=BF (hval 2 23 v2 rfl rfl) h2
 obtain ⟨n3,rfl,hlo3,hhi3⟩:=a_int (hval 3 3 v3 rfl rfl) h3
 obtain ⟨cs4,pr4,rfl,hP4,hD4⟩:=XbU (hval 4 30 v4 rfl rfl) h4
 have hlt0:∀ x ∈ p0,x.block < W.heap.size:=by
   obtain ⟨fuel,hf⟩:=h0
   exact DataW.trod_lt _ _ _ _ hf
 have hlt1:∀ x ∈ p1,x.block < W.heap.size:=by
   obtain ⟨fuel,hf⟩:=h1
   exact DataW.trod_lt _ _ _ _ hf
 have hlt2:∀ x ∈ p2,x.block < W.heap.size:=by
   obtain ⟨fuel,hf⟩:=h2
   exact DataW.trod_lt _ _ _ _ hf
 have hlt3:∀ x ∈ p3,x.block < W.heap.size:=by
   obtain ⟨fuel,hf⟩:=h3
   exact DataW.trod_lt _ _ _ _ hf
 have hlt4:∀ x ∈ p4,x.block < W.heap.size:=by
   obtain ⟨fuel,hf⟩:=h4
   exact DataW.trod_lt _ _ _ _ hf
 have hbulk:Rows.uptoBulk d4≤1048576:=Nat.le_trans (JW (by simp)) hk
 clear hA0 hval0 hsz0
 simp only [List.append_nil] at hW'
 refine (JV A0 C0 l0 A1 C1 l1 A2 C2 l2 n3 cs4 pr4 W hB0 hn0 hB1 hc1 hn1 hB2 hc2 hn2 hP4 (by have:=hD4;omega) hN hT).mono fun e W' ⟨he,hb⟩=>?_
 subst he
 exact ⟨_,rfl,JT (pa:=p0++(p1++(p2++(p3++(p4++[]))))) (pv:=[]) hW' (fun _ _ _=>(trodAll_cons_mk (shut_bool Tryz.underlying4 _) trodAll_mk0))
   (fun sp hsp=>(trodAll_cons_mk (WideElems.Trod_stays (P:=Tryz.prog) V7 (by kernel_rfl) (of_decide_eq_true (by kernel_rfl)) h0 (fun x hx=>hb.same (hlt0 x hx)) (fun x hx=>hsp x (by simp [hx]))) (trodAll_cons_mk (WideElems.Trod_stays (P:=Tryz.prog) V7 (by kernel_rfl) (of_decide_eq_true (by kernel_rfl)) h1 (fun x hx=>hb.same (hlt1 x hx)) (fun x hx=>hsp x (by simp [hx]))) (trodAll_cons_mk (WideElems.Trod_stays (P:=Tryz.prog) V7 (by kernel_rfl) (of_decide_eq_true (by kernel_rfl)) h2 (fun x hx=>hb.same (hlt2 x hx)) (fun x hx=>hsp x (by simp [hx]))) (trodAll_cons_mk (WideElems.Trod_stays (P:=Tryz.prog) V7 (by kernel_rfl) (of_decide_eq_true (by kernel_rfl)) h3 (fun x hx=>hb.same (hlt3 x hx)) (fun x hx=>hsp x (by simp [hx]))) (trodAll_cons_mk (WideElems.Trod_stays (P:=Tryz.prog) V7 (by kernel_rfl) (of_decide_eq_true (by kernel_rfl)) h4 (fun x hx=>hb.same (hlt4 x hx)) (fun x hx=>hsp x (by simp [hx]))) trodAll_mk0)))))) (fun _ _=>rfl) (by simp)
   hb (ok_one (by kernel_rfl) rfl (okWide_bool_mk Tryz.underlying4 _))⟩
theorem pathTells_holds:Rows.PathTellsUptoSaid:=
 OpenClaim.holds_of_cond 3 Tryz.f3 rfl rfl rfl rfl rfl rfl rfl ⟨rfl,rfl,rfl,rfl,rfl⟩ rfl rfl rfl rfl rfl (by kernel_rfl) Tryz.func3 (by kernel_rfl)
   (of_decide_eq_true (by kernel_rfl)) (by unfold Func.isWrapper;first | (rw [if_pos (by decide +kernel)];kernel_rfl) | (rw [if_neg (by decide +kernel)];exact ⟨rfl,rfl⟩))
   (fun os started H enc _ F=>by rw [OpenClaim.pre_eq_preRow];exact pathTells_lifted os started H enc F)
theorem pathTells_card:Rows.PathTellsUptoCardSaid:=
 Claim7.holds_tied_plain_at .later [] [.data,.data] true Rows.pathTellsUptoCard.stood.harness Rows.pathTellsUptoCard.stood.looks
   pathTells_holds (fun _ h=>by cases h) (by kernel_rfl) (fun _ h=>by cases h) pathTellsUpto_row_tie rfl ⟨rfl,rfl⟩ (by kernel_rfl) rfl
   (fun f fn hf hfn=>by
     obtain rfl : f = 3 := Option.some.inj ((show Tryz.prog.funcNamed "seisin/seisinlaw08.PathTells" = some 3 by kernel_rfl).symm.trans hf) |>.symm
     obtain rfl:fn=Tryz.f3:=(Option.some.inj (Tryz.func3.symm.trans hfn)).symm
     exact ⟨by kernel_rfl,fun j t ht=>by
       rw [Tryz.params3] at ht
       have hm:t ∈ [22,23,23,3,30]:=by simpa using Array.mem_of_getElem? ht
       have hall:([22,23,23,3,30].all fun u=>!Tryz.prog.wantsStandIn u)=true:=by kernel_rfl
       exact (show Tryz.prog.wantsStandIn t=false by simpa using List.all_eq_true.1 hall t hm)⟩)
   (by kernel_rfl)
end Go.Proofs.YtagnefpgidbhnaaGreatDoor
