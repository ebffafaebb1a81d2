/-
  Plain Lean: the tokens of what is printed. Nothing of the program. Conditions: none.
-/
import Derived.Test.YtkchaoajegkadaaGreatDoorJn2
import Derived.Test.YtkchaoajegkadaaGreatDoorJn4
set_option linter.unusedSimpArgs false
set_option linter.unusedVariables false
namespace Go.Proofs.YtkchaoajegkadaaGreatDoor
def kb (l:List (Nat × List UInt8)):List (Nat × ByteArray):=l.map fun x=>(x.1,mk x.2)
theorem kb_app (a b:List (Nat × List UInt8)):kb (a++b)=kb a++kb b:=List.map_append
def Lx (w:WS) (toks:List (Nat × ByteArray)):Prop:=∀ post:ByteArray,(w.2=true→St post)→K (mk w.1++post) false=toks++K post w.2
def Wt (w:List UInt8) (ts:List (Nat × List UInt8)):Prop:=∀ post o,St post→K (mk w++post) o=kb ts++K post true
inductive Ws:List (List UInt8)→List (Nat × List UInt8)→Prop where
 | nil:Ws [] []
 | cons {w:List UInt8} {l:List (List UInt8)} {a b:List (Nat × List UInt8)}:Wt w a→Ws l b→Ws (w :: l) (a++b)
theorem Ws.app {l m:List (List UInt8)} {a b:List (Nat × List UInt8)} (h:Ws l a) (k:Ws m b):Ws (l++m) (a++b):=by
 induction h with
 | nil=>exact k
 | cons hw _ ih=>rw [List.append_assoc];exact .cons hw ih
theorem wt_good {kd:Nat} {t:List UInt8} (h:Good kd (mk t)):Wt t [(kd,t)]:=fun post o hs=>K_tok o h hs
theorem Ws.one {kd:Nat} {t:List UInt8} {l:List (List UInt8)} {b:List (Nat × List UInt8)} (h:Good kd (mk t)) (k:Ws l b):Ws (t :: l) ((kd,t) :: b):=.cons (wt_good h) k
theorem st_blank (post:ByteArray):St (mk [32]++post):=st_32 post
theorem st_line (post:ByteArray):St (mk [10]++post):=st_10 post
theorem Lx.nil:Lx ([],false) []:=fun post _=>by rw [show mk ([]:List UInt8)++post=post from nil_app post];rfl
theorem Lx.word {w:WS} {toks:List (Nat × ByteArray)} {s:List UInt8} {ts:List (Nat × List UInt8)} (h:Lx w toks) (hs:Wt s ts):Lx (wordW w s) (toks++kb ts):=fun post hp=>by
 have hp:=hp rfl
 show K (mk (w.1++(if w.2=true then [32] else [])++s)++post) false=_
 rw [mk_append,mk_append,app_assoc,app_assoc]
 cases hw:w.2 with
 | true=>
   have h1:=h (mk [32]++(mk s++post)) (fun _=>st_blank _)
   rw [hw] at h1
   show K (mk w.1++(mk [32]++(mk s++post))) false=_
   rw [h1,K_sp,hs post true hp,List.append_assoc]
   rfl
 | false=>
   have h1:=h (mk s++post) (fun e=>by rw [hw] at e;cases e)
   rw [hw] at h1
   show K (mk w.1++(mk []++(mk s++post))) false=_
   rw [nil_app,h1,hs post false hp,List.append_assoc]
   rfl
theorem Lx.words {l:List (List UInt8)} {ts:List (Nat × List UInt8)} (hs:Ws l ts):∀ {w:WS} {toks:List (Nat × ByteArray)},Lx w toks→Lx (wordsW w l) (toks++kb ts):=by
 induction hs with
 | nil=>intro w toks h;rw [show kb []=[] from rfl,List.append_nil];exact h
 | cons hw _ ih=>
   intro w toks h
   have:=ih (h.word hw)
   rw [kb_app,← List.append_assoc]
   exact this
theorem words_on:∀ (l:List (List UInt8)) (w:WS),l ≠ []→(wordsW w l).2=true
 | [],_,h=>absurd rfl h
 | [_],_,_=>rfl
 | s :: t :: l,w,_=>words_on (t :: l) (wordW w s) (List.cons_ne_nil _ _)
theorem words_keep:∀ (l:List (List UInt8)) (w:WS),w.2=true→(wordsW w l).2=true
 | [],_,h=>h
 | _ :: l,_,_=>words_keep l _ rfl
theorem Lx.line {w:WS} {toks:List (Nat × ByteArray)} (h:Lx w toks) (hw:w.2=true):Lx (lineW w) (toks++kb [(4,[])]):=fun post _=>by
 show K (mk (w.1++[10])++post) false=_
 rw [mk_append,app_assoc,h _ (fun _=>st_line _),hw,K_ln,List.append_assoc]
 rfl
def NmGood (locs:List ByteArray):Prop:=∀ w ∈ locs,Good 1 (mk w.toList)
theorem good_loc {locs:List ByteArray} (hn:NmGood locs) {l:UInt8} (hl:l.toNat < locs.length):Good 1 (mk (locT locs l)):=by
 obtain ⟨w,hw,e,_⟩:=loc_text hl
 rw [e];exact hn w hw
theorem good_arg {r:Bool} {n:UInt8} (h:ArgR r n):Good (argK r n).1 (mk (argK r n).2):=by
 cases r with
 | true=>exact good_reg (h rfl)
 | false=>exact good_num n
theorem arg_word (r:Bool) (n:UInt8):argT r n=(argK r n).2:=by cases r <;> rfl
theorem ws_arg {r:Bool} {n:UInt8} (h:ArgR r n) {l:List (List UInt8)} {b:List (Nat × List UInt8)} (k:Ws l b):Ws (argT r n :: l) (argK r n :: b):=by
 rw [arg_word]
 exact Ws.one (good_arg h) k
theorem ins_ws {locs:List ByteArray} (hn:NmGood locs) {x:Ins} (hx:PrIns locs.length x):Ws (insT locs x) (insK locs x):=by
 cases hx with
 | load d l m hd hl hm=>
   rcases hm with rfl | rfl
   · exact .one (good_reg hd) (.one good_eq (.one (good_loc hn hl) .nil))
   · exact .one (good_reg hd) (.one good_eq (.one (good_loc hn hl) (.one good_acq .nil)))
 | store l r v m hl hr hm=>
   rcases hm with rfl | rfl
   · exact .one (good_loc hn hl) (.one good_eq (ws_arg hr .nil))
   · exact .one (good_loc hn hl) (.one good_eq (ws_arg hr (.one good_rel .nil)))
 | move d r v f q u hd hr hq hf=>
   refine .one (good_reg hd) (.one good_eq (ws_arg hr (.one ?_ (ws_arg hq .nil))))
   rcases hf with rfl | rfl | rfl
   · exact good_add
   · exact good_sub
   · exact good_xor
 | swap d l r v hd hl hr=>exact .one (good_reg hd) (.one good_eq (.one good_swap (.one (good_loc hn hl) (ws_arg hr .nil))))
 | fetch d l r v hd hl hr=>exact .one (good_reg hd) (.one good_eq (.one good_fetch (.one (good_loc hn hl) (ws_arg hr .nil))))
 | cas d l r v q u hd hl hr hq=>exact .one (good_reg hd) (.one good_eq (.one good_cas (.one (good_loc hn hl) (ws_arg hr (ws_arg hq .nil)))))
 | fence m hm=>
   rcases hm with rfl | rfl | rfl
   · exact .one good_fence .nil
   · exact .one good_fence (.one good_loads .nil)
   · exact .one good_fence (.one good_stores .nil)
 | skip k r v f q u hr hq hf=>
   refine .one good_skip (.one (good_num k) (.one good_if (ws_arg hr (.one ?_ (ws_arg hq .nil)))))
   rcases hf with rfl | rfl | rfl
   · exact good_eqeq
   · exact good_ne
   · exact good_lt
theorem ins_some {locs:List ByteArray} {x:Ins} (hx:PrIns locs.length x):insT locs x ≠ []:=by cases hx <;> exact List.cons_ne_nil _ _
theorem kidsT_consW (locs:List ByteArray) (and:Bool) (mid:List (List UInt8)) (first:Bool) (x:Cnd) (r:List Cnd):condWd.kidsT locs and mid first (x :: r)=(if first then [] else mid)++(if x.kind=4∨and=true∧x.kind=3 then [40] :: (condWd locs x++[[41]]) else condWd locs x)++condWd.kidsT locs and mid false r:=by
 cases x;rfl
theorem cond_ws {locs:List ByteArray} (hn:NmGood locs):∀ (h:Nat) (x:Cnd),PrC locs.length h x→Ws (condWd locs x) (condTk locs x)
 | 0,_,hx=>hx.elim
 | h+1,.mk k t n v kids,hx=>by
   have kid:∀ (and:Bool) (y:Cnd),PrC locs.length h y→Ws (if y.kind=4∨and=true∧y.kind=3 then [40] :: (condWd locs y++[[41]]) else condWd locs y) (tokG locs and y):=fun and y hy=>by
     have:=cond_ws hn h y hy
     unfold tokG
     split
     · exact .one good_open (this.app (.one good_close .nil))
     · exact this
   have many:∀ (and:Bool) (mid:List (List UInt8)) (midk:List (Nat × List UInt8)),Ws mid midk→∀ (r:List Cnd) (first:Bool),(∀ y ∈ r,PrC locs.length h y)→Ws (condWd.kidsT locs and mid first r) (condTk.kidsK locs and midk first r):=by
     intro and mid midk hm r
     induction r with
     | nil=>intro first _;exact .nil
     | cons y r ih=>
       intro first hy
       rw [kidsT_consW,kidsK_cons]
       refine Ws.app (Ws.app ?_ (kid and y (hy y (by simp)))) (ih false fun z hz=>hy z (by simp [hz]))
       cases first with
       | true=>exact .nil
       | false=>exact hm
   rcases hx with ⟨rfl,rfl,rfl,rfl,rfl⟩ | ⟨rfl,h8,rfl⟩ | ⟨rfl,rfl,hl,rfl⟩ | ⟨⟨rfl,rfl,rfl,rfl⟩,y,rfl,hy⟩ | ⟨⟨hk,rfl,rfl,rfl⟩,_,hy⟩
   · exact .one good_true .nil
   · exact .cons (show Wt (numT t++[58]++regT n) [(2,numT t),(3,[58]),(1,regT n)] from wt_three t h8) (.one good_eq (.one (good_num v) .nil))
   · exact .one (good_loc hn hl) (.one good_eq (.one (good_num v) .nil))
   · exact .one good_not (many true [] [] .nil [y] true (fun z hz=>by rw [List.mem_singleton.1 hz];exact hy))
   · rcases hk with rfl | rfl
     · exact many true [[38]] [(3,[38])] (.one good_and .nil) kids true hy
     · exact many false [[124]] [(3,[124])] (.one good_or .nil) kids true hy
theorem code_lx {locs:List ByteArray} (hn:NmGood locs):∀ (l:List Ins) {w:WS} {toks:List (Nat × ByteArray)},(∀ x ∈ l,PrIns locs.length x)→w.2=true→Lx w toks→l ≠ []→Lx (lineW (codeW locs false w l)) (toks++kb ((4,[]) :: codeK locs l))∧True
 | [],_,_,_,_,_,hne=>absurd rfl hne
 | [x],w,toks,hx,hw,h,_=>by
   have h1:=((h.line hw).words (ins_ws hn (hx x (by simp)))).line (words_on _ _ (ins_some (hx x (by simp))))
   refine ⟨?_,trivial⟩
   show Lx (lineW (wordsW (lineW w) (insT locs x))) _
   rw [List.append_assoc,List.append_assoc,← kb_app,← kb_app] at h1
   exact h1
 | x :: y :: r,w,toks,hx,hw,h,_=>by
   have h1:=(h.line hw).words (ins_ws hn (hx x (by simp)))
   have h2:=(code_lx hn (y :: r) (fun z hz=>hx z (by simp [hz])) (words_on _ _ (ins_some (hx x (by simp)))) h1 (List.cons_ne_nil _ _)).1
   refine ⟨?_,trivial⟩
   show Lx (lineW (codeW locs false (wordsW (lineW w) (insT locs x)) (y :: r))) _
   rw [List.append_assoc,List.append_assoc,← kb_app,← kb_app] at h2
   exact h2
theorem thread_lx {locs:List ByteArray} (hn:NmGood locs) (l:List Ins) (hx:∀ x ∈ l,PrIns locs.length x) {w:WS} {toks:List (Nat × ByteArray)} (h:Lx w toks):Lx (threadW locs w l) (toks++kb ((1,[116,104,114,101,97,100]) :: (4,[]) :: codeK locs l)):=by
 have h0:Lx (wordsW w [[116,104,114,101,97,100]]) (toks++kb [(1,[116,104,114,101,97,100])]):=h.words (.one good_thread .nil)
 cases l with
 | nil=>
   have h1:=h0.line rfl
   rw [List.append_assoc,← kb_app] at h1
   exact h1
 | cons x r=>
   have h1:=(h0.line rfl).words (ins_ws hn (hx x (by simp)))
   cases r with
   | nil=>
     have h2:=h1.line (words_on _ _ (ins_some (hx x (by simp))))
     rw [List.append_assoc,List.append_assoc,List.append_assoc,← kb_app,← kb_app,← kb_app] at h2
     exact h2
   | cons y r=>
     have h2:=(code_lx hn (y :: r) (fun z hz=>hx z (by simp [hz])) (words_on _ _ (ins_some (hx x (by simp)))) h1 (List.cons_ne_nil _ _)).1
     rw [List.append_assoc,List.append_assoc,List.append_assoc,← kb_app,← kb_app,← kb_app] at h2
     exact h2
theorem threads_lx {locs:List ByteArray} (hn:NmGood locs):∀ (l:List (List Ins)),(∀ t ∈ l,∀ x ∈ t,PrIns locs.length x)→∀ {w:WS} {toks:List (Nat × ByteArray)},Lx w toks→Lx (l.foldl (threadW locs) w) (toks++kb (threadsK locs l))
 | [],_,w,toks,h=>by rw [show kb (threadsK locs [])=[] from rfl,List.append_nil];exact h
 | t :: l,hx,w,toks,h=>by
   have h1:=threads_lx hn l (fun u hu=>hx u (by simp [hu])) (thread_lx hn t (hx t (by simp)) h)
   rw [List.append_assoc,← kb_app] at h1
   exact h1
theorem init_lx {init:List UInt8}:∀ (r:List ByteArray) (i:Nat),(∀ w ∈ r,Good 1 (mk w.toList))→i+r.length≤init.length→∀ {w:WS} {toks:List (Nat × ByteArray)},Lx w toks→Lx (initW init i w r) (toks++kb (initK init i r))
 | [],i,_,_,w,toks,h=>by rw [show kb (initK init i [])=[] from rfl,List.append_nil];exact h
 | s :: r,i,hg,hl,w,toks,h=>by
   rw [List.length_cons] at hl
   have e:init[i]? = some (init.getD i 0):=by rw [List.getD_eq_getElem?_getD,List.getElem?_eq_getElem (show i < init.length by omega)];rfl
   have h1:=(h.words (Ws.one (hg s (by simp)) (.one good_eq .nil))).words (Ws.one (good_num (init.getD i 0)) .nil)
   have h2:=init_lx (init:=init) r (i+1) (fun u hu=>hg u (by simp [hu])) (by omega) h1
   rw [List.append_assoc,List.append_assoc,← kb_app,← kb_app] at h2
   show Lx (initW init (i+1) (match init[i]? with | some v=>_ | none=>_) r) _
   rw [e]
   exact h2
theorem init_on {init:List UInt8}:∀ (r:List ByteArray) (i:Nat) (w:WS),w.2=true→(initW init i w r).2=true
 | [],_,_,h=>h
 | s :: r,i,w,_=>by
   show (initW init (i+1) (match init[i]? with | some v=>_ | none=>_) r).2=true
   refine init_on r (i+1) _ ?_
   cases init[i]? with
   | some v=>rfl
   | none=>rfl
theorem prog_lx {p:Prg} (hp:PrPg p) (hname:Good 1 (mk p.name.toList)) (hn:NmGood p.locs):Lx (progW p) (kb (progK p)):=by
 have h0:Lx (lineW (wordsW ([],false) [[116,101,115,116],p.name.toList])) (kb [(1,[116,101,115,116]),(1,p.name.toList),(4,[])]):=by
   have:=(Lx.nil.words (Ws.one good_test (.one hname .nil))).line rfl
   rw [List.append_assoc,← kb_app] at this
   exact this
 have h1:Lx (if p.locs.length=0 then lineW (wordsW ([],false) [[116,101,115,116],p.name.toList]) else lineW (initW p.init 0 (wordsW (lineW (wordsW ([],false) [[116,101,115,116],p.name.toList])) [[105,110,105,116]]) p.locs)) (kb [(1,[116,101,115,116]),(1,p.name.toList),(4,[])]++kb (midK p)):=by
   unfold midK
   split
   · rw [show kb []=[] from rfl,List.append_nil];exact h0
   · have:=(init_lx (init:=p.init) p.locs 0 hn (by have:=hp.init;omega) (h0.words (Ws.one good_init .nil))).line (init_on _ _ _ rfl)
     rw [List.append_assoc,List.append_assoc,← kb_app,← kb_app] at this
     exact this
 have h2:=threads_lx hn p.threads (fun t ht=>(hp.ins t ht).2) h1
 obtain ⟨h,hc⟩:=hp.cond
 have hask:Good 1 (mk (askT p.ask)):=by
   rcases hp.ask with e | e | e <;> rw [e]
   · exact good_some
   · exact good_none
   · exact good_all
 have h3:=((h2.words (Ws.one hask .nil)).words (cond_ws hn h p.cond hc)).line (words_keep _ _ rfl)
 rw [List.append_assoc,List.append_assoc,List.append_assoc,List.append_assoc,← kb_app,← kb_app,← kb_app,← kb_app,← kb_app] at h3
 exact h3
theorem print_K {p:Prg} (hp:PrPg p) (hname:Good 1 (mk p.name.toList)) (hn:NmGood p.locs):K (mk (printT p)) false=kb (progK p):=by
 have h:=prog_lx hp hname hn ByteArray.empty (fun e=>by cases e)
 rw [app_nil] at h
 show K (mk (progW p).1) false=_
 rw [h,show (progW p).2=false from rfl,K_none,List.append_nil]
end Go.Proofs.YtkchaoajegkadaaGreatDoor
