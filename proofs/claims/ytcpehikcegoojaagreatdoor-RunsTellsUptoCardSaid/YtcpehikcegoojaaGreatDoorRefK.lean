/-
  The reference of layer 4: letter, digit, Ej, sign, Num, Reg, Kept, Name by what they answer. Conditions: those of each theorem.

  The reference of layer 4: Num, Kept, Name by what they answer. Conditions: the string's size at most maxLen.

  The reference of layer 4: Lex. Conditions: the string's size at most maxLen.
-/
import Derived.Test.YtcpehikcegoojaaGreatDoorLexK
import Derived.Deep.LoopGhost
set_option linter.unusedSimpArgs false
set_option linter.unusedVariables false
namespace Go.Proofs.YtcpehikcegoojaaGreatDoor
set_option maxRecDepth 100000
open Go.RowKit
theorem isLet_iff {n:Int}:(cls n == 3)=true ↔ (97≤n∧n≤122∨65≤n∧n≤90):=by
 unfold cls;rw [beq_iff_eq]
 constructor
 · intro h;repeat' split at h
   all_goals omega
 · intro h;rw [if_pos h]
theorem isLet_false {n:Int}:(cls n == 3)=false ↔ ¬ (97≤n∧n≤122∨65≤n∧n≤90):=by
 rw [← isLet_iff];simp
theorem QO (n:Int) (w:World) (c:Bool) (hc:(cls n == 3)=c) :
   Calls Tryz.prog 56 #[.int .u8 n] w fun e w'=>e = .returned (.bool c)∧w=w':=by
 have Hc:=Lib.hid hc
 clear hc
 go_enter Tryz.func56,Tryz.ntmps56
 go_wp2
 all_goals
   go_returns
   refine ⟨Qk ?_,rfl⟩
   rw [← Hc.out]
   first
     | (rw [isLet_iff.2 (by omega)];done)
     | (rw [Bool.eq_iff_iff,isLet_iff];simp;omega)
     | (rw [isLet_false.2 (by omega)];done)
theorem QM (n:Int) (w:World) (c:Bool) (hc:Qx n=c) :
   Calls Tryz.prog 58 #[.int .u8 n] w fun e w'=>e = .returned (.bool c)∧w=w':=by
 have Hc:=Lib.hid hc
 clear hc
 go_enter Tryz.func58,Tryz.ntmps58
 go_wp2
 all_goals
   go_returns
   refine ⟨Qk ?_,rfl⟩
   rw [← Hc.out,Bool.eq_iff_iff,isDig_iff]
   simp <;> omega
theorem Xd5 {n:Int}:Ej n=true ↔ ((97≤n∧n≤122∨65≤n∧n≤90)∨(48≤n∧n≤57)∨n=95):=by
 unfold Ej
 rw [Bool.or_eq_true,Bool.or_eq_true,isLet_iff]
 have h4:(cls n == 4)=true ↔ 48≤n∧n≤57:=isDig_iff
 rw [h4]
 have h5:(cls n == 5)=true ↔ n=95:=by
   unfold cls;rw [beq_iff_eq]
   constructor
   · intro h;repeat' split at h
     all_goals omega
   · rintro rfl;decide
 rw [h5];omega
theorem MG (n:Int) (w:World) (c:Bool) (hc:Ej n=c) :
   Calls Tryz.prog 57 #[.int .u8 n] w fun e w'=>e = .returned (.bool c)∧w=w':=by
 have Hc:=Lib.hid hc
 clear hc
 cases h3:(cls n == 3)
 · cases h4:Qx n
   all_goals
     have G3:=Lib.hid h3
     have G4:=Lib.hid h4
     clear h3 h4
     go_enter Tryz.func57,Tryz.ntmps57
     go_wp2_with (first | (go_at_call 56;refine (QO _ _ _ G3.out).mono ?_;rintro e w' ⟨rfl,rfl⟩) | (go_at_call 58;refine (QM _ _ _ G4.out).mono ?_;rintro e w' ⟨rfl,rfl⟩))
     all_goals
       go_returns
       refine ⟨Qk ?_,rfl⟩
       have g3:=isLet_false.1 G3.out
       have g4:=G4.out
       rw [← Hc.out,Bool.eq_iff_iff,Xd5]
       first
         | (have:=isDig_iff.1 g4;simp;omega)
         | (have hn:¬ (48≤n∧n≤57):=fun h=>by rw [isDig_iff.2 h] at g4;cases g4
            simp;omega)
 · have G3:=Lib.hid h3
   clear h3
   go_enter Tryz.func57,Tryz.ntmps57
   go_wp2_with (go_at_call 56;refine (QO _ _ _ G3.out).mono ?_;rintro e w' ⟨rfl,rfl⟩)
   go_returns
   refine ⟨Qk ?_,rfl⟩
   rw [← Hc.out,Bool.eq_iff_iff,Xd5]
   have:=isLet_iff.1 G3.out
   simp;omega
theorem XeL {n:Int}:(cls n == 6)=true ↔ (n=61∨n=43∨n=45∨n=94∨n=38∨n=124∨n=33∨n=40∨n=41∨n=58∨n=60):=by
 unfold cls;rw [beq_iff_eq]
 constructor
 · intro h;repeat' split at h
   all_goals omega
 · intro h;rcases h with rfl | rfl | rfl | rfl | rfl | rfl | rfl | rfl | rfl | rfl | rfl <;> decide
def NH (s:ByteArray) (k:Nat):Int:=if Lq s k then 2 else if Nx s k=6 then 1 else 0
def markS:ByteArray:=⟨#[61,43,45,94,38,124,33,40,41,58,60]⟩
def markL:List Nat:=[61,43,45,94,38,124,33,40,41,58,60]
theorem XhJ:∀ i:Fin 11,(markS[i.val]'(i.isLt)).toNat=markL[i.val]'(i.isLt):=by decide +kernel
theorem Xf4 (i:Nat) (h:i < markS.size):markS[i].toNat=markL[i]'h:=XhJ ⟨i,h⟩
theorem CX {n:Nat}:(cls n == 6)=true ↔ n ∈ markL:=by
 rw [XeL];simp only [markL,List.mem_cons,List.not_mem_nil,or_false];omega
theorem XhH {n:Nat} {i:Nat} (h:i < markS.size) (he:(markS[i].toNat:Int)=n):(cls n == 6)=true:=by
 rw [CX]
 have:markS[i].toNat=n:=by omega
 rw [← this,Xf4 i h]
 exact List.getElem_mem _
theorem Xf2 {n:Nat} (h:n ∉ markL.take 11):(cls n == 6)=false:=by
 rw [Bool.eq_false_iff,Ne,CX];exact h
theorem Xf3 {n i:Nat} (h:n ∉ markL.take i) (hi:i < markS.size) (he:¬ (markS[i].toNat:Int)=n):n ∉ markL.take (i+1):=by
 have hl:i < markL.length:=hi
 rw [List.take_succ_eq_append_getElem hl,List.mem_append]
 rintro (h1 | h1)
 · exact h h1
 · rw [List.mem_singleton] at h1
   have:=Xf4 i hi
   exact he (by omega)
set_option maxHeartbeats 2000000 in
theorem Bt (s:ByteArray) (k:Nat) (w:World) (hs:s.size≤16384) (hk:k < s.size) :
   Calls Tryz.prog 60 #[.string s,.int .i64 k] w fun e w'=>e = .returned (.int .i64 (NH s k))∧∃ n,w'=w.drewN n:=by
 have hca:Nx s k=cls s[k].toNat:=by unfold Nx;rw [dif_pos hk]
 have H2:Lq s k=true→Hid (NH s k=2):=fun h=>Lib.hid (by unfold NH;rw [if_pos h])
 have H1:Lq s k=false→Hid (NH s k=if (cls ↑s[k].toNat == 6) then 1 else 0):=fun h=>Lib.hid (by unfold NH;rw [if_neg (by simp [h]),hca];simp)
 have HH:=Lib.hid (⟨H2,H1⟩:(Lq s k=true→Hid (NH s k=2))∧(Lq s k=false→Hid (NH s k=if (cls ↑s[k].toNat == 6) then 1 else 0)))
 clear H1 H2 hca
 go_enter Tryz.func60,Tryz.ntmps60
 go_wp2
 · go_returns
   exact ⟨Q3 ((HH.out.1 (by unfold Lq;rw [dif_pos (by omega)];simp [*])).out).symm,0,rfl⟩
 · go_returns
   exact ⟨Q3 ((HH.out.1 (by unfold Lq;rw [dif_pos (by omega)];simp at *;simp [*];omega)).out).symm,0,rfl⟩
 all_goals
   have hf:Lq s k=false:=by
     unfold Lq
     first
       | (rw [dif_neg (by omega)])
       | (rw [dif_pos (by omega)];simp [*];done)
       | (rw [dif_pos (by omega)];simp_all;done)
       | (rw [dif_pos (by omega)];simp at *;simp [*];done)
   have G1:=HH.out.2 hf
   clear hf HH
   generalize hsg:(ByteArray.mk #[61,43,45,94,38,124,33,40,41,58,60])=sg
   have hz:sg.size≤11:=by rw [← hsg];exact Nat.le_refl 11
   have hz2:11≤sg.size:=by rw [← hsg];exact Nat.le_refl 11
   obtain rfl:sg=markS:=hsg.symm
   clear hsg
   go_loopg [6] 11 (fun m v wr=>∃ i:Nat,Hid (m=11 - i)∧i≤11∧(∃ d,wr=w.drewN d)∧v = .int .i64 i∧Hid (s[k].toNat ∉ markL.take i))
   case atStart=>exact ⟨0,Lib.hid rfl,by omega,⟨0,rfl⟩,rfl,Lib.hid (by simp)⟩
   case round=>
     obtain ⟨i,hm,hi,⟨d,rfl⟩,rfl,hn⟩:=hrel
     by_cases hlt:i < 11
     · have him:i < markS.size:=hlt
       by_cases he:(markS[i].toNat:Int)=s[k].toNat
       · have he':((markS[i].toNat:Int) == (s[k].toNat:Int))=true:=by simpa using he
         have G:=Lib.hid (XhH him he)
         clear he
         go_wp2
         go_quiet (fail)
         go_wp2
         go_returns
         exact ⟨Q3 (by rw [G1.out,G.out];rfl),_,by rw [World.drewN_drewN]⟩
       · have he':((markS[i].toNat:Int) == (s[k].toNat:Int))=false:=by simpa using he
         have G:=Lib.hid (Xf3 hn.out him he)
         clear he
         go_wp2
         go_quiet (fail)
         go_wp2
         go_roundg (11 - (i+1))
         case measure=>rw [hm.out];omega
         case rel=>exact ⟨i+1,Lib.hid rfl,by omega,⟨_,by rfl⟩,by go_num,G⟩
     · obtain rfl:i=11:=by omega
       have G:=Lib.hid (Xf2 hn.out)
       go_wp2
       go_returns
       exact ⟨Q3 (by rw [G1.out,G.out];rfl),_,by rfl⟩
set_option maxHeartbeats 2000000 in
theorem D1 (s:ByteArray) (w:World) (hs:s.size≤maxLen) (c:Bool) (hc:Nv s=c) :
   Calls Tryz.prog 59 #[.string s] w fun e w'=>e = .returned (.tuple #[.int .u8 (XcZ s),.bool c])∧w=w':=by
 unfold maxLen at hs
 have Hc:=Lib.hid hc
 clear hc
 go_enter Tryz.func59,Tryz.ntmps59
 go_wp2
 go_loopg [4,5] s.size (fun m v i wr=>∃ j:Nat,Hid (m=s.size - j)∧j≤s.size∧j≤3∧w=wr∧v = .int .i64 (Nr s j)∧i = .int .i64 j∧Hid (J6 Qx s 0=J6 Qx s j)∧(Nr s j:Int)≤999∧Hid ((j≤2→(Nr s j:Int)≤99)∧(j≤1→(Nr s j:Int)≤9)∧(j≤0→(Nr s j:Int)≤0)))
 case atStart=>exact ⟨0,Lib.hid rfl,Nat.zero_le _,by omega,rfl,rfl,rfl,Lib.hid rfl,by simp [Nr],Lib.hid (by simp [Nr])⟩
 case round=>
   obtain ⟨j,hm,hj,hj3,rfl,rfl,rfl,he,b3,Hb⟩:=hrel
   by_cases hlt:j < s.size
   · by_cases hd:Qx s[j].toNat=true
     · have Hd:=Lib.hid hd
       obtain ⟨d1,d2⟩:=isDig_iff.1 hd
       clear hd
       by_cases h2:j≤2
       · have b2:=Hb.out.1 h2
         have Hv:=Lib.hid (Cs hlt Hd.out)
         clear b3
         go_wp2_with (go_at_call 58;refine (QM _ _ true Hd.out).mono ?_;rintro e w' ⟨rfl,rfl⟩)
         go_roundg (s.size - (j+1))
         case measure=>rw [hm.out];omega
         case rel=>exact ⟨j+1,Lib.hid rfl,by omega,by omega,rfl,by rw [Hv.out],by go_num,Lib.hid (he.out.trans (Qg hlt Hd.out)),by rw [Hv.out];omega,Lib.hid ⟨fun _=>by rw [Hv.out];have:=Hb.out.2.1 (by omega);omega,fun _=>by rw [Hv.out];have:=Hb.out.2.2 (by omega);omega,fun _=>by omega⟩⟩
       · have hno:Nv s=false:=by unfold Nv;rw [dif_neg (by omega)]
         have Hn:=Lib.hid hno
         clear hno
         go_wp2_with (go_at_call 58;refine (QM _ _ true Hd.out).mono ?_;rintro e w' ⟨rfl,rfl⟩)
         go_returns
         exact ⟨NI (by simp [XcZ,Hn.out]) (by rw [← Hc.out,Hn.out]),rfl⟩
     · have hd':Qx s[j].toNat=false:=by simpa using hd
       have hno:Nv s=false:=by
         unfold Nv;split
         · rw [he.out,QB hlt hd',show (j == s.size)=false from by simp;omega];simp
         · rfl
       have Hn:=Lib.hid hno
       have Hd:=Lib.hid hd'
       clear hno hd hd'
       go_wp2_with (go_at_call 58;refine (QM _ _ false Hd.out).mono ?_;rintro e w' ⟨rfl,rfl⟩)
       go_returns
       exact ⟨NI (by simp [XcZ,Hn.out]) (by rw [← Hc.out,Hn.out]),rfl⟩
   · have hjs:j=s.size:=by omega
     by_cases h0:s.size=0
     · have hno:Nv s=false:=by unfold Nv;rw [dif_neg (by omega)]
       have hnil:=Cx h0
       have Hn:=Lib.hid hno
       have Hj:=Lib.hid hjs
       clear hno hjs h0
       go_wp2
       go_returns
       exact ⟨NI (by simp [XcZ,Hn.out]) (by rw [← Hc.out,Hn.out]),rfl⟩
     · have hp:0 < s.size:=by omega
       have hne:=ED hp
       have hie:=Mu hp
       have hok:Nv s=(!((s[0].toNat:Int) == 48 && decide (1 < s.size)) && decide (Nr s j≤255)):=by
         unfold Nv;rw [dif_pos (by omega),he.out,QW (by omega)];simp [hjs]
       have Ho:=Lib.hid hok
       have Hj:=Lib.hid hjs
       have hz3:s.size≤3:=by omega
       clear hok hjs h0
       by_cases hz:(s[0].toNat:Int)=48
       · have hz':((s[0].toNat:Int) == 48)=true:=by simpa using hz
         by_cases h1:1 < s.size
         · have hno:Nv s=false:=by rw [Ho.out];simp [hz,h1]
           have Hn:=Lib.hid hno
           clear hno hz
           go_wp2
           go_returns
           exact ⟨NI (by simp [XcZ,Hn.out]) (by rw [← Hc.out,Hn.out]),rfl⟩
         · have Hz:=Lib.hid hz'
           clear hz
           by_cases hv:(Nr s j:Int)≤255
           · have hyes:Nv s=true:=by rw [Ho.out];simp [h1];omega
             have Hy:=Lib.hid hyes
             clear hyes
             go_wp2
             go_returns
             exact ⟨NI (by simp [XcZ,Hy.out,← Hj.out]) (by rw [← Hc.out,Hy.out]),rfl⟩
           · have hno:Nv s=false:=by rw [Ho.out];simp;omega
             have Hn:=Lib.hid hno
             clear hno
             go_wp2
             go_returns
             exact ⟨NI (by simp [XcZ,Hn.out]) (by rw [← Hc.out,Hn.out]),rfl⟩
       · have hz':((s[0].toNat:Int) == 48)=false:=by simpa using hz
         by_cases hv:(Nr s j:Int)≤255
         · have hyes:Nv s=true:=by rw [Ho.out,hz'];simp;omega
           have Hy:=Lib.hid hyes
           clear hyes
           go_wp2
           go_returns
           exact ⟨NI (by simp [XcZ,Hy.out,← Hj.out]) (by rw [← Hc.out,Hy.out]),rfl⟩
         · have hno:Nv s=false:=by rw [Ho.out];simp;omega
           have Hn:=Lib.hid hno
           clear hno
           go_wp2
           go_returns
           exact ⟨NI (by simp [XcZ,Hn.out]) (by rw [← Hc.out,Hn.out]),rfl⟩
def keptS:List ByteArray:=keptL.map fun l=>⟨l.toArray⟩
def Xkp:List Value:=keptS.map .string
theorem Xjo (s:ByteArray):XeJ s=keptS.any (fun b=>b.toList == s.toList):=by
 unfold XeJ keptS
 rw [List.any_map]
 congr 1
 funext l
 simp only [Function.comp]
 rw [Bool.eq_iff_iff,beq_iff_eq,beq_iff_eq,L5 ⟨l.toArray⟩]
 simp [eq_comm]
set_option maxHeartbeats 2000000 in
theorem Xbx (s:ByteArray) (w:World) (c:Bool) (hc:XeJ s=c) :
   Calls Tryz.prog 61 #[.string s] w fun e w'=>e = .returned (.bool c)∧Below w.heap.size w w':=by
 have hk:=Xjo s
 rw [hc] at hk
 have Hk:=Lib.hid hk
 clear hc hk
 go_enter Tryz.func61,Tryz.ntmps61
 go_wp2
 generalize hW:World.alloc w _=w1
 have hB:Blk w1 w.heap.size Xkp 9:=by rw [← hW];exact Blk.new _ _ _
 have hb:Below w.heap.size w w1:=by rw [← hW];exact (Below.refl _ _).alloc (Nat.le_refl _) _
 clear hW
 go_loopg [4] 17 (fun m v wr=>∃ i:Nat,Hid (m=17 - i)∧i≤17∧(∃ d,wr=w1.drewN d)∧v = .int .i64 i∧Hid ((keptS.take i).any (fun b=>b.toList == s.toList)=false))
 case atStart=>exact ⟨0,Lib.hid rfl,by omega,⟨0,rfl⟩,rfl,Lib.hid rfl⟩
 case round=>
   obtain ⟨i,hm,hi,⟨d,rfl⟩,rfl,hn⟩:=hrel
   by_cases hlt:i < 17
   · have hl:i < keptS.length:=hlt
     obtain ⟨b,hbe⟩:∃ b,keptS[i]? = some b:=⟨_,List.getElem?_eq_getElem hl⟩
     have hcell:=(hB.drewN d).cell i (v:=.string b) (by simp [Xkp,hbe])
     have Hbe:=Lib.hid hbe
     clear hbe
     by_cases he:b.toList=s.toList
     · have he':(b.toList == s.toList)=true:=by simpa using he
       have G:Hid (c=true):=Lib.hid (by
         rw [Hk.out,List.any_eq_true];exact ⟨b,List.mem_of_getElem? Hbe.out,he'⟩)
       clear he
       go_wp2
       go_wp2
       go_returns
       exact ⟨Qk G.out.symm,by exact below_drewN hb _⟩
     · have he':(b.toList == s.toList)=false:=by simpa using he
       have G:Hid ((keptS.take (i+1)).any (fun b=>b.toList == s.toList)=false):=Lib.hid (by
         rw [List.take_succ_eq_append_getElem hl,List.any_append,hn.out]
         have:keptS[i]=b:=by have:=Hbe.out;rw [List.getElem?_eq_getElem hl] at this;exact Option.some.inj this
         simp [this,he'])
       clear he
       go_wp2
       go_wp2
       go_roundg (17 - (i+1))
       case measure=>rw [hm.out];omega
       case rel=>exact ⟨i+1,Lib.hid rfl,by omega,⟨_,by rfl⟩,by go_num,G⟩
   · obtain rfl:i=17:=by omega
     have G:Hid (c=false):=Lib.hid (by rw [Hk.out];exact hn.out)
     go_wp2
     go_returns
     exact ⟨Qk G.out.symm,below_drewN hb _⟩
theorem XiI (p:Int→Bool) (s:ByteArray):∀ f a i,a≤i→i < ext p s f a→∃ h:i < s.size,p s[i].toNat=true
 | 0,a,i,h1,h2=>by simp [ext] at h2;omega
 | f+1,a,i,h1,h2=>by
   unfold ext at h2
   split at h2
   · rename_i ha
     split at h2
     · rename_i hp
       by_cases he:a=i
       · subst he;exact ⟨ha,hp⟩
       · exact XiI p s f (a+1) i (by omega) h2
     · omega
   · omega
theorem Xho {p:Int→Bool} {s:ByteArray} {a i:Nat} (h1:a≤i) (h2:i < J6 p s a) (h:i < s.size):p s[i].toNat=true:=by
 obtain ⟨_,h3⟩:=XiI p s _ a i h1 h2;exact h3
theorem XgA (p:Int→Bool) (s:ByteArray):∀ f a,s.size≤a+f→∀ h:ext p s f a < s.size,p s[ext p s f a].toNat=false
 | 0,a,hf,h=>by simp only [ext] at h;omega
 | f+1,a,hf,h=>by
   by_cases ha:a < s.size
   · by_cases hp:p s[a].toNat=true
     · have he:ext p s (f+1) a=ext p s f (a+1):=by simp [ext,ha,hp]
       have:=XgA p s f (a+1) (by omega) (by rw [← he];exact h)
       simp only [he];exact this
     · have he:ext p s (f+1) a=a:=by simp [ext,ha,hp]
       simp only [he];simpa using hp
   · have he:ext p s (f+1) a=a:=by simp [ext,ha]
     rw [he] at h;omega
theorem Xfs {p:Int→Bool} {s:ByteArray} {a:Nat} (h:J6 p s a < s.size):p s[J6 p s a].toNat=false:=
 XgA p s _ a (by omega) h
theorem Xfj {s:ByteArray} {i:Nat} (hi:i < s.size) (h1:1≤i):(decide (i≤J6 Qx s 1) && Qx s[i].toNat)=decide (i+1≤J6 Qx s 1):=by
 by_cases h:i < J6 Qx s 1
 · have:=Xho h1 h hi
   rw [this,decide_eq_true (by omega),decide_eq_true (by omega)];rfl
 · by_cases he:i=J6 Qx s 1
   · have:=Xfs (p:=Qx) (s:=s) (a:=1) (by omega)
     simp only [← he] at this
     rw [this,Bool.and_false];exact (decide_eq_false (by omega)).symm
   · rw [decide_eq_false (by omega),decide_eq_false (by omega)];rfl
theorem Xhf {s:ByteArray} (h:1≤s.size):decide (s.size≤J6 Qx s 1)=Dd s:=by
 have:=LK Qx s 1 h
 unfold Dd
 rw [Bool.eq_iff_iff];simp;omega
set_option maxHeartbeats 2000000 in
theorem Xfv (s:ByteArray) (w:World) (hs:s.size≤maxLen) (c:Bool) (hc:Ny s=c) :
   Calls Tryz.prog 30 #[.string s] w fun e w'=>e = .returned (.bool c)∧Below w.heap.size w w':=by
 unfold maxLen at hs
 have Hc:=Lib.hid hc
 clear hc
 by_cases h:1≤s.size∧s.size≤16
 · have hno:Ny s=(cls s[0].toNat == 3 && !XeJ s && J6 Ej s 1 == s.size && !(decide (1 < s.size) && (s[0].toNat:Int) == 114 && Dd s)):=by
     unfold Ny;rw [dif_pos h,Bool.and_comm ((s[0].toNat:Int) == 114)]
   have Hn:=Lib.hid hno
   clear hno
   obtain ⟨h1,h2⟩:=h
   have hp:0 < s.size:=h1
   have hne:=ED hp
   have hie:=Mu hp
   cases hl:(cls s[0].toNat == 3)
   · have Hl:=Lib.hid hl
     have hno:Ny s=false:=by rw [Hn.out,hl];rfl
     have Hno:=Lib.hid hno
     clear hl hno
     go_enter Tryz.func30,Tryz.ntmps30
     go_wp2_with (go_at_call 56;refine (QO _ _ _ Hl.out).mono ?_;rintro e w' ⟨rfl,rfl⟩)
     go_returns
     exact ⟨Qk (by rw [← Hc.out,Hno.out]),Below.refl _ _⟩
   · cases hk:XeJ s
     · have Hl:=Lib.hid hl
       have Hk:=Lib.hid hk
       clear hl hk
       go_enter Tryz.func30,Tryz.ntmps30
       go_wp2_with (first | (go_at_call 56;refine (QO _ _ _ Hl.out).mono ?_;rintro e w' ⟨rfl,rfl⟩) | (go_at_call 61;refine (Xbx _ _ _ Hk.out).mono ?_;rintro e w1 ⟨rfl,hb1⟩))
       all_goals
         go_loopg [3,4] (s.size - 1) (fun m d i wr=>∃ (j:Nat) (dd:Bool),Hid (m=s.size - j)∧1≤j∧j≤s.size∧w1=wr∧d = .bool dd∧i = .int .i64 j∧Hid (J6 Ej s 1=J6 Ej s j)∧Hid (dd=((decide (1 < s.size) && (s[0].toNat:Int) == 114) && decide (j≤J6 Qx s 1))))
         case atStart=>exact ⟨1,_,Lib.hid rfl,by omega,by omega,rfl,rfl,rfl,Lib.hid rfl,Lib.hid (by rw [decide_eq_true (EJ Qx s 1)];(simp [*];intro _;omega))⟩
         case round=>
           obtain ⟨j,dd,hm,hj1,hj2,rfl,rfl,rfl,he,hdd⟩:=hrel
           by_cases hlt:j < s.size
           · cases hg:Ej s[j].toNat
             · have Hg:=Lib.hid hg
               have Hno:Hid (Ny s=false):=Lib.hid (by rw [Hn.out,he.out,QB hlt hg,show (j == s.size)=false from by simp;omega];simp)
               clear hg
               go_wp2_with (go_at_call 57;refine (MG _ _ _ Hg.out).mono ?_;rintro e w' ⟨rfl,rfl⟩)
               go_returns
               exact ⟨Qk (by rw [← Hc.out,Hno.out]),hb1⟩
             · have Hg:=Lib.hid hg
               have Ht:=Lib.hid (Xfj hlt hj1)
               clear hg
               cases dd
               · go_wp2_with (go_at_call 57;refine (MG _ _ _ Hg.out).mono ?_;rintro e w' ⟨rfl,rfl⟩)
                 go_roundg (s.size - (j+1))
                 case measure=>rw [hm.out];omega
                 case rel=>exact ⟨j+1,false,Lib.hid rfl,by omega,by omega,rfl,rfl,by go_num,Lib.hid (he.out.trans (Qg hlt Hg.out)),Lib.hid (by rw [← Ht.out,← Bool.and_assoc,← hdd.out];rfl)⟩
               · go_wp2_with (first | (go_at_call 57;refine (MG _ _ _ Hg.out).mono ?_;rintro e w' ⟨rfl,rfl⟩) | (go_at_call 58;refine (QM _ _ (Qx s[j].toNat) rfl).mono ?_;rintro e w' ⟨rfl,rfl⟩))
                 go_roundg (s.size - (j+1))
                 case measure=>rw [hm.out];omega
                 case rel=>exact ⟨j+1,Qx s[j].toNat,Lib.hid rfl,by omega,by omega,rfl,rfl,by go_num,Lib.hid (he.out.trans (Qg hlt Hg.out)),Lib.hid (by rw [← Ht.out,← Bool.and_assoc,← hdd.out];rfl)⟩
           · have hjs:j=s.size:=by omega
             have Hno:Hid (Ny s = !dd):=Lib.hid (by
               rw [Hn.out,he.out,QW (by omega),Hl.out,Hk.out,hdd.out]
               rw [hjs,Xhf h1];simp)
             clear hjs
             go_wp2
             go_returns
             exact ⟨Qk (by rw [← Hc.out,Hno.out]),hb1⟩
     · have Hl:=Lib.hid hl
       have Hk:=Lib.hid hk
       have Hno:Hid (Ny s=false):=Lib.hid (by rw [Hn.out,hk];simp)
       clear hl hk
       go_enter Tryz.func30,Tryz.ntmps30
       go_wp2_with (first | (go_at_call 56;refine (QO _ _ _ Hl.out).mono ?_;rintro e w' ⟨rfl,rfl⟩) | (go_at_call 61;refine (Xbx _ _ _ Hk.out).mono ?_;rintro e w1 ⟨rfl,hb1⟩))
       go_returns
       exact ⟨Qk (by rw [← Hc.out,Hno.out]),hb1⟩
 · have Hno:Hid (Ny s=false):=Lib.hid (by unfold Ny;rw [dif_neg h])
   by_cases h0:s.size=0
   · have hnil:=Cx h0
     clear h0
     go_enter Tryz.func30,Tryz.ntmps30
     go_wp2
     go_returns
     exact ⟨Qk (by rw [← Hc.out,Hno.out]),Below.refl _ _⟩
   · have hne:=ED (s:=s) (by omega)
     have hie:=Mu (s:=s) (by omega)
     have h16:16 < s.size:=by omega
     clear h0 h
     go_enter Tryz.func30,Tryz.ntmps30
     go_wp2
     go_returns
     exact ⟨Qk (by rw [← Hc.out,Hno.out]),Below.refl _ _⟩
theorem cls_1 {n:Int}:cls n=1 ↔ n=32∨n=9:=by
 unfold cls;constructor
 · intro h;repeat' split at h
   all_goals omega
 · rintro (rfl | rfl) <;> decide
theorem cls_2 {n:Int}:cls n=2 ↔ n=10:=by
 unfold cls;constructor
 · intro h;repeat' split at h
   all_goals omega
 · rintro rfl;decide
theorem cls_7 {n:Int}:cls n=7 ↔ n=35:=by
 unfold cls;constructor
 · intro h;repeat' split at h
   all_goals omega
 · rintro rfl;decide
def Tok.rcells (t:Tok):List Value:=[.int .i64 t.kind,.string t.text,.int .i64 t.pos]
def Nk (ts:List Tok):List Value:=ts.flatMap Tok.rcells
theorem EL (pre:List Tok) (t:Tok):Nk (pre++[t])=Nk pre++[.int .i64 t.kind,.string t.text,.int .i64 t.pos]:=by
 simp [Nk,Tok.rcells]
theorem XhT {s:ByteArray} {k:Nat} (h:Lq s k=true):k+1 < s.size:=by
 unfold Lq at h;split at h
 · assumption
 · cases h
theorem Xgj {s:ByteArray} {k:Nat} (h:Lq s k=true) (hk:k < s.size):cls s[k].toNat=6:=by
 unfold Lq at h;split at h
 · simp only [Bool.and_eq_true,Bool.or_eq_true,beq_iff_eq] at h
   rcases h.1 with h | h <;> rw [h] <;> rfl
 · cases h
theorem Xhb {s:ByteArray} {k:Nat} (h:k < s.size) (hc:cls s[k].toNat=3):MU s k=⟨1,s.extract k (J6 Ej s k),k⟩∧NG s k=J6 Ej s k:=by
 have hca:Nx s k=3:=by unfold Nx;rw [dif_pos h,hc]
 have hg:Ej s[k].toNat=true:=by unfold Ej;rw [hc];rfl
 have ht:NG s k=J6 Ej s k:=by unfold NG;rw [if_pos hca,Qg h hg];rfl
 exact ⟨by unfold MU;rw [ht,hca];rfl,ht⟩
theorem XiU {s:ByteArray} {k:Nat} (h:k < s.size) (hc:cls s[k].toNat=4):MU s k=⟨2,s.extract k (J6 Qx s k),k⟩∧NG s k=J6 Qx s k:=by
 have hca:Nx s k=4:=by unfold Nx;rw [dif_pos h,hc]
 have hg:Qx s[k].toNat=true:=by unfold Qx;rw [hc];rfl
 have ht:NG s k=J6 Qx s k:=by unfold NG;rw [hca,if_neg (by decide),if_pos rfl,Qg h hg];rfl
 exact ⟨by unfold MU;rw [ht,hca];rfl,ht⟩
theorem Xhc {s:ByteArray} {k:Nat} (h:k < s.size) (h3:cls s[k].toNat ≠ 3) (h4:cls s[k].toNat ≠ 4):MU s k=⟨3,s.extract k (NS s k),k⟩∧NG s k=NS s k:=by
 have hca:Nx s k=cls s[k].toNat:=by unfold Nx;rw [dif_pos h]
 have ht:NG s k=NS s k:=by unfold NG;rw [hca,if_neg h3,if_neg h4]
 exact ⟨by unfold MU Db;rw [ht,hca,if_neg h3,if_neg h4],ht⟩
theorem C7 {s:ByteArray} {k j:Nat} (hj:j≤s.size):JV ⟨1,s.extract k j,k⟩=if 16 < j - k then 42 else 0:=by
 unfold JV;rw [if_pos rfl,ByteArray.size_extract,Nat.min_eq_left hj]
theorem Xb7 {s:ByteArray} {k j:Nat}:JV ⟨2,s.extract k j,k⟩=if Nv (s.extract k j) then 0 else 41:=by
 unfold JV;rw [if_neg (by simp),if_pos rfl]
theorem Dw {s:ByteArray} {k j:Nat} (h:k < s.size) (hkj:k < j) (hj:j≤s.size):JV ⟨3,s.extract k j,k⟩=if cls s[k].toNat=6 then 0 else 40:=by
 have hz:0 < (s.extract k j).size:=by rw [ByteArray.size_extract];omega
 rw [Xb8 hz]
 have:(s.extract k j)[0]=s[k]:=by simp [ByteArray.getElem_extract]
 rw [this]
theorem Xbz (q:List Tok):(Nk q).length=q.length * 3:=by
 induction q with
 | nil=>rfl
 | cons u r ih=>simp [Nk,Tok.rcells] at ih ⊢;omega
def Li (s:ByteArray) (w:World) (e:Ending) (w':World):Prop:=
 Below w.heap.size w w' ∧
   ((∃ p f,QI s=some (p,f)∧e = .returned (.tuple #[.slice none 0 0,.int .i64 (p:Nat),.int .i64 f])) ∨
    (QI s=none∧∃ sv,e = .returned (.tuple #[sv,.int .i64 0,.int .i64 0])∧w'.ownsRow w.heap.size 98 3 sv (MS s).length (Nk (MS s))∧(sv = .slice none 0 0 ↔ MS s=[])))
def RI (s:ByteArray) (w:World) (pre:List Tok) (k:Nat) (sv:Value) (wr:World):Prop:=
 MS s=pre++Qv s k (QK pre)∧Qt pre=none∧k≤s.size∧wr.ownsRow w.heap.size 98 3 sv pre.length (Nk pre)∧(sv = .slice none 0 0 ↔ pre=[])∧Below w.heap.size w wr
theorem Xft:((Tryz.prog).info? 98).map (fun i=>(i.zero,i.size,i.bytes))=some (some (.agg #[.int .i64 0,.string ⟨#[]⟩,.int .i64 0]),3,32):=by kernel_rfl
theorem RI.len {s:ByteArray} {w:World} {pre:List Tok} {k:Nat} {sv:Value} {wr:World} (h:RI s w pre k sv wr):pre.length≤2 * s.size+1:=by
 have h1:=XdH s
 rw [h.1] at h1;simp at h1;omega
theorem RI.put {s:ByteArray} {w:World} {pre:List Tok} {n k k':Nat} {sv:Value} {wr Wd w2:World} {t:Tok} {g' cap':Nat} (h:RI s w pre k sv wr) (hn:pre.length=n) (hr:Qv s k (QK pre)=t :: Qv s k' (t.kind != 4)) (hf:JV t=0) (hk':k'≤s.size)
   (hown':w2.ownsRow w.heap.size 98 3 (.slice (some ⟨g',0,none⟩) (n+1) cap') (n+1) (Nk pre++[.int .i64 t.kind,.string t.text,.int .i64 t.pos])) (hbd:Below w.heap.size w Wd) (hgr:Wd.grownBy w2 sv.ownBlock) :
   RI s w (pre++[t]) k' (.slice (some ⟨g',0,none⟩) (n+1) cap') w2:=by
 subst hn
 obtain ⟨h1,h2,h3,h4,h5,h6⟩:=h
 refine ⟨?_,?_,hk',?_,by simp,?_⟩
 · rw [h1,hr,Ei];simp
 · rw [NA h2,if_pos hf]
 · rw [List.length_append,List.length_singleton,EL];exact hown'
 · exact hbd.grown hgr hbd.size (fun k hk=>(h4.lt k hk).1)
theorem RI.move {s:ByteArray} {w:World} {pre:List Tok} {k k':Nat} {sv:Value} {wr:World} (h:RI s w pre k sv wr) (hr:Qv s k (QK pre)=Qv s k' (QK pre)) (hk':k'≤s.size) (d:Nat):RI s w pre k' sv (wr.drewN d):=by
 obtain ⟨h1,h2,h3,h4,h5,h6⟩:=h
 exact ⟨by rw [← hr];exact h1,h2,hk',h4,h5,below_drewN h6 d⟩
theorem RI.bad {s:ByteArray} {w:World} {pre:List Tok} {k:Nat} {sv:Value} {wr:World} {t:Tok} {r:List Tok} (h:RI s w pre k sv wr) (hr:Qv s k (QK pre)=t :: r) (hf:JV t ≠ 0) (hs:s.size≤16384):QI s=some (t.pos,JV t):=by
 obtain ⟨h1,h2,_⟩:=h
 unfold QI
 rw [if_neg (by omega)]
 have:Qt (MS s)=some t:=Lz (pre:=pre++[t]) (by rw [NA h2,if_neg hf]) ⟨r,by rw [h1,hr];simp⟩
 rw [this];rfl
theorem RI.own {s:ByteArray} {w:World} {pre:List Tok} {k:Nat} {sv:Value} {wr:World} (h:RI s w pre k sv wr):wr.ownsRow w.heap.size 98 3 sv pre.length (Nk pre):=h.2.2.2.1
theorem RI.below {s:ByteArray} {w:World} {pre:List Tok} {k:Nat} {sv:Value} {wr:World} (h:RI s w pre k sv wr):Below w.heap.size w wr:=h.2.2.2.2.2
theorem RI.drawn {s:ByteArray} {w:World} {pre:List Tok} {k:Nat} {sv:Value} {wr:World} (h:RI s w pre k sv wr) (d:Nat):RI s w pre k sv (wr.drewN d):=h.move rfl h.2.2.1 d
theorem RI.ownN {s:ByteArray} {w:World} {pre:List Tok} {n k:Nat} {sv:Value} {wr:World} (h:RI s w pre k sv wr) (hn:pre.length=n):wr.ownsRow w.heap.size 98 3 sv n (Nk pre):=hn ▸ h.own
theorem RI.last {s:ByteArray} {w:World} {pre:List Tok} {k:Nat} {sv:Value} {wr:World} (h:RI s w pre k sv wr):(pre=[]∧sv = .slice none 0 0)∨∃ n t g cap,pre.length=n+1∧sv = .slice (some ⟨g,0,none⟩) (n+1) cap∧wr.cell? ⟨g,n * 3,none⟩=some (.int .i64 (t:Nat))∧QK pre=(t != 4):=by
 rcases List.eq_nil_or_concat pre with rfl | ⟨q,t,rfl⟩
 · exact .inl ⟨rfl,h.2.2.2.2.1.2 rfl⟩
 · have hl:(q.concat t).length=q.length+1:=by simp
   rcases h.own.2 with ⟨_,h2⟩ | ⟨g,cap,cur,h1,_⟩
   · rw [hl] at h2;omega
   · have ho:=h.own
     subst h1
     refine .inr ⟨q.length,t.kind,g,cap,hl,by rw [hl],?_,by rw [List.concat_eq_append,Ei]⟩
     rw [ho.cellAt (q.length * 3) (by rw [hl];omega),List.concat_eq_append,EL]
     have hq:=Xbz q
     rw [List.getElem?_append_right (by omega),hq,Nat.sub_self];rfl
theorem RI.fin {s:ByteArray} {w:World} {pre:List Tok} {k:Nat} {sv:Value} {wr:World} (h:RI s w pre k sv wr) (hk:k=s.size) (hs:s.size≤16384) (ho:QK pre=false):Li s w (.returned (.tuple #[sv,.int .i64 0,.int .i64 0])) wr:=by
 subst hk
 obtain ⟨h1,h2,_,h4,h5,h6⟩:=h
 rw [XaA,ho] at h1
 simp only [Bool.false_eq_true,if_false,List.append_nil] at h1
 refine ⟨h6,.inr ⟨?_,sv,rfl,?_,?_⟩⟩
 · unfold QI;rw [if_neg (by omega),h1,h2];rfl
 · rw [h1];exact h4
 · rw [h1];exact h5
theorem RI.err {s:ByteArray} {w:World} {pre:List Tok} {k:Nat} {sv:Value} {wr w':World} {t:Tok} {r:List Tok} {f:Int} (h:RI s w pre k sv wr) (hr:Qv s k (QK pre)=t :: r) (hf:JV t=f) (hne:f ≠ 0) (hs:s.size≤16384) (hb:Below w.heap.size w w'):Li s w (.returned (.tuple #[.slice none 0 0,.int .i64 t.pos,.int .i64 f])) w':=
 ⟨hb,.inl ⟨t.pos,f,by rw [h.bad hr (by rw [hf];exact hne) hs,hf],rfl⟩⟩
set_option maxRecDepth 100000 in
set_option maxHeartbeats 8000000 in
theorem Xes (s:ByteArray) (w:World) (hs:s.size≤16384):Calls Tryz.prog 29 #[.string s] w (Li s w):=by
 obtain ⟨i0,hi,hz0,hz1,hz2⟩:=info_parts Xft
 have hns:¬ (16384 < (s.size:Int)):=by omega
 have hd:decide (16384 < (s.size:Int))=false:=by simp;omega
 go_enter Tryz.func29,Tryz.ntmps29
 go_wp2
 go_loopg [5,6] s.size (fun m l at_ wr=>∃ (pre:List Tok) (k:Nat),Hid (m=s.size - k)∧at_ = .int .i64 k∧RI s w pre k l wr)
 case atStart=>exact ⟨[],0,Lib.hid rfl,rfl,by rw [Xfe];rfl,rfl,Nat.zero_le _,World.ownsRow_nil _ _ _ _,by simp,Below.refl _ _⟩
 case round=>
   obtain ⟨pre,k,hm,rfl,hI⟩:=hrel
   have hpl:=hI.len
   have hk:=hI.2.2.1
   have hown:=hI.2.2.2.1
   have hbz:=hI.2.2.2.2.2.size
   by_cases hlt:k < s.size
   · obtain ⟨c,hc⟩:∃ c,cls s[k].toNat=c:=⟨_,rfl⟩
     have HI:=Lib.hid hI
     clear hI
     by_cases h1:c=1
     · subst h1
       have Hr:=Lib.hid (Xev (QK pre) hlt hc)
       rcases cls_1.1 hc with hb | hb
       all_goals
         clear hc hpl
         go_wp2
         go_roundg (s.size - (k+1))
         case measure=>rw [hm.out];omega
         case rel=>exact ⟨pre,k+1,Lib.hid rfl,by go_num,by have:=HI.out.move Hr.out (by omega) 0;exact this⟩
     · by_cases h2:c=2
       · subst h2
         have hb:=cls_2.1 hc
         rcases HI.out.last with ⟨rfl,rfl⟩ | ⟨n,t,g,cap,hn,rfl,hc0,ho⟩
         · have Hr:Hid (Qv s k (QK [])=Qv s (k+1) (QK [])):=Lib.hid (by rw [XcQ _ hlt hc];rfl)
           clear hc hpl
           go_wp2
           go_roundg (s.size - (k+1))
           case measure=>rw [hm.out];omega
           case rel=>exact ⟨[],k+1,Lib.hid rfl,by go_num,by have:=HI.out.move Hr.out (by omega) 0;exact this⟩
         · have hnl:n+1≤2 * s.size+1:=by rw [← hn];exact hpl
           cases hk4:(t != 4)
           · have Hr:Hid (Qv s k (QK pre)=Qv s (k+1) (QK pre)):=Lib.hid (by rw [XcQ _ hlt hc,ho,hk4];rfl)
             have ht:t=4:=by simpa using hk4
             have Hn:=Lib.hid hn
             subst ht
             clear hc hpl hk4 hn ho
             go_wp2
             go_roundg (s.size - (k+1))
             case measure=>rw [hm.out];omega
             case rel=>exact ⟨pre,k+1,Lib.hid rfl,by go_num,by have:=HI.out.move Hr.out (by omega) 0;exact this⟩
           · have Hr:Hid (Qv s k (QK pre)=⟨4,ByteArray.empty,k⟩ :: Qv s (k+1) false):=Lib.hid (by rw [XcQ _ hlt hc,ho,hk4];rfl)
             have ht:((t:Nat):Int) ≠ 4:=by
               have:t ≠ 4:=by simpa using hk4
               omega
             have Hn:=Lib.hid hn
             clear hc hpl hk4 hn ho
             go_wp2_with (at_builtin;go_must (refine Qm _ rfl _ _ 94 rfl w.heap.size 98 i0 (.agg #[.int .i64 0,.string ⟨#[]⟩,.int .i64 0]) 3 32 Tryz.underlying94 hi hz0 hz1 hz2 rfl (by decide) _ _ _ rfl ((HI.out.ownN Hn.out).alloc _) ⟨wr.heap.size,0,none⟩ 1 1 [.int .i64 4,.string ⟨#[]⟩,.int .i64 k] rfl rfl (Qu _ _ _ _ _) (by simp [Value.oneCell']) (by unfold maxLen;omega) (by omega) (by simp;omega) (by decide) ?_;intro g' cap' w1 hown' hgrow hblk))
             go_roundg (s.size - (k+1))
             case measure=>rw [hm.out];omega
             case rel=>exact ⟨pre++[⟨4,ByteArray.empty,k⟩],k+1,Lib.hid rfl,by go_num,HI.out.put (t:=⟨4,ByteArray.empty,k⟩) Hn.out Hr.out rfl (by omega) hown' (by repeat (first | with_reducible exact HI.out.below | with_reducible refine Below.drew ?_ | with_reducible refine below_drewN ?_ _ | with_reducible refine Below.alloc ?_ (by have:=HI.out.below.size;simp;omega) _)) hgrow⟩
       · by_cases h7:c=7
         · subst h7
           have hb:=cls_7.1 hc
           have Hr:=Lib.hid (XfC (QK pre) hlt hc)
           clear hc hpl
           go_wp2
           go_loopg [6] (s.size - k) (fun m2 at2 wr2=>∃ j:Nat,Hid (m2=s.size - j)∧at2 = .int .i64 j∧k≤j∧j≤s.size∧wr=wr2∧Hid (J6 (fun n=>cls n != 2) s k=J6 (fun n=>cls n != 2) s j))
           case atStart=>exact ⟨k,Lib.hid rfl,rfl,Nat.le_refl _,hk,rfl,Lib.hid rfl⟩
           case round=>
             obtain ⟨j,hm2,rfl,hkj,hj,rfl,he⟩:=hrel
             by_cases hlt2:j < s.size
             · by_cases hn:(s[j].toNat:Int)=10
               · have Hj:Hid (Qv s k (QK pre)=Qv s j (QK pre)):=Lib.hid (by rw [Hr.out,he.out,QB hlt2 (by rw [cls_2.2 hn];rfl)])
                 have Hkj:Hid (k < j):=Lib.hid (by
                   rcases Nat.lt_or_ge k j with h | h
                   · exact h
                   · have:j=k:=by omega
                     subst this;omega)
                 go_wp2
                 go_roundg (s.size - j)
                 case measure=>rw [hm.out];have:=Hkj.out;omega
                 case rel=>exact ⟨pre,j,Lib.hid rfl,rfl,by have:=HI.out.move Hj.out (by omega) 0;exact this⟩
               · have Hs:=Lib.hid (Qg hlt2 (p:=fun n=>cls n != 2) (by rw [bne_iff_ne,ne_eq,cls_2];exact hn))
                 go_wp2
                 go_roundg (s.size - (j+1))
                 case measure=>rw [hm2.out];omega
                 case rel=>exact ⟨j+1,Lib.hid rfl,by go_num,by omega,by omega,rfl,Lib.hid (he.out.trans Hs.out)⟩
             · have hjs:j=s.size:=by omega
               have Hj:Hid (Qv s k (QK pre)=Qv s j (QK pre)):=Lib.hid (by rw [Hr.out,he.out,QW (by omega)])
               have Hjs:=Lib.hid hjs
               clear hjs
               go_wp2
               go_roundg (s.size - j)
               case measure=>rw [hm.out];have:=Hjs.out;omega
               case rel=>exact ⟨pre,j,Lib.hid rfl,rfl,by have:=HI.out.move Hj.out (by omega) 0;exact this⟩
         · have Hrt:=Lib.hid (Xhv (QK pre) hlt (by rw [hc];exact h1) (by rw [hc];exact h2) (by rw [hc];exact h7))
           have Hl0:=Lib.hid hc
           obtain ⟨n,hn⟩:∃ n,pre.length=n:=⟨_,rfl⟩
           have hnl:n≤2 * s.size+1:=by rw [← hn];exact hpl
           have Hn:=Lib.hid hn
           have hb1:((s[k].toNat:Int) == 32)=false:=beq_eq_false_iff_ne.2 fun h=>h1 (by rw [← hc];exact cls_1.2 (.inl h))
           have hb2:((s[k].toNat:Int) == 9)=false:=beq_eq_false_iff_ne.2 fun h=>h1 (by rw [← hc];exact cls_1.2 (.inr h))
           have hb3:((s[k].toNat:Int) == 10)=false:=beq_eq_false_iff_ne.2 fun h=>h2 (by rw [← hc];exact cls_2.2 h)
           have hb4:((s[k].toNat:Int) == 35)=false:=beq_eq_false_iff_ne.2 fun h=>h7 (by rw [← hc];exact cls_7.2 h)
           by_cases h3:c=3
           · subst h3
             have Hl:Hid ((cls s[k].toNat == 3)=true):=Lib.hid (by rw [hc];rfl)
             obtain ⟨ht,hto⟩:=Xhb hlt hc
             have hr:=Hrt.out
             rw [ht,hto] at hr
             have Hr:=Lib.hid hr
             have Hto:=Lib.hid hto
             clear hc hpl h1 h2 h7 hn hr ht hto
             go_wp2_with (go_at_call 56;refine (QO _ _ _ Hl.out).mono ?_;rintro e w' ⟨rfl,rfl⟩)
             go_loopg [6] (s.size - k) (fun m2 at2 wr2=>∃ j:Nat,Hid (m2=s.size - j)∧at2 = .int .i64 j∧k≤j∧j≤s.size∧wr=wr2∧Hid (J6 Ej s k=J6 Ej s j))
             case atStart=>exact ⟨k,Lib.hid rfl,rfl,Nat.le_refl _,hk,rfl,Lib.hid rfl⟩
             case round=>
               obtain ⟨j,hm2,rfl,hkj,hj,rfl,he⟩:=hrel
               by_cases hlt2:j < s.size
               · cases hg:Ej s[j].toNat
                 · have Hg:=Lib.hid hg
                   have hend:J6 Ej s k=j:=by rw [he.out,QB hlt2 hg]
                   clear hg
                   have Hkj:Hid (k < j):=Lib.hid (by
                     have:=MT s k
                     rw [Hto.out,hend] at this;exact this)
                   have Hr2:Hid (Qv s k (QK pre)=⟨1,s.extract k j,k⟩ :: Qv s j true):=Lib.hid (by rw [Hr.out,hend])
                   have Hfw:=Lib.hid (C7 (k:=k) hj)
                   clear hend
                   by_cases h16:16 < j - k
                   · have hgt:16 < (j:Int) - k:=by omega
                     have Hf:Hid (JV ⟨1,s.extract k j,k⟩=42):=Lib.hid (by rw [Hfw.out,if_pos h16])
                     have Hj16:=Lib.hid h16
                     clear h16
                     go_wp2_with (go_at_call 57;refine (MG _ _ _ Hg.out).mono ?_;rintro e w' ⟨rfl,rfl⟩)
                     go_returns
                     exact HI.out.err (t:=⟨1,s.extract k j,k⟩) Hr2.out Hf.out (by decide) hs HI.out.below
                   · have hgt:¬ 16 < (j:Int) - k:=by omega
                     have Hf:Hid (JV ⟨1,s.extract k j,k⟩=0):=Lib.hid (by rw [Hfw.out,if_neg h16])
                     clear h16
                     go_wp2_with (first | (go_at_call 57;refine (MG _ _ _ Hg.out).mono ?_;rintro e w' ⟨rfl,rfl⟩) | (at_builtin;go_must (refine Qm _ rfl _ _ 94 rfl w.heap.size 98 i0 (.agg #[.int .i64 0,.string ⟨#[]⟩,.int .i64 0]) 3 32 Tryz.underlying94 hi hz0 hz1 hz2 rfl (by decide) _ _ _ rfl ((HI.out.ownN Hn.out).alloc _) ⟨wr.heap.size,0,none⟩ 1 1 [.int .i64 1,.string (s.extract k j),.int .i64 k] rfl rfl (Qu _ _ _ _ _) (by simp [Value.oneCell']) (by unfold maxLen;omega) (by omega) (by simp;omega) (by decide) ?_;intro g' cap' w1 hown' hgrow hblk)))
                     go_roundg (s.size - j)
                     case measure=>rw [hm.out];have:=Hkj.out;omega
                     case rel=>exact ⟨pre++[⟨1,s.extract k j,k⟩],j,Lib.hid rfl,rfl,HI.out.put (t:=⟨1,s.extract k j,k⟩) Hn.out Hr2.out Hf.out (by omega) hown' (by repeat (first | with_reducible exact HI.out.below | with_reducible refine Below.drew ?_ | with_reducible refine below_drewN ?_ _ | with_reducible refine Below.alloc ?_ (by have:=HI.out.below.size;simp;omega) _)) hgrow⟩
                 · have Hs:=Lib.hid (Qg hlt2 hg)
                   have Hg:=Lib.hid hg
                   clear hg
                   go_wp2_with (go_at_call 57;refine (MG _ _ _ Hg.out).mono ?_;rintro e w' ⟨rfl,rfl⟩)
                   go_roundg (s.size - (j+1))
                   case measure=>rw [hm2.out];omega
                   case rel=>exact ⟨j+1,Lib.hid rfl,by go_num,by omega,by omega,rfl,Lib.hid (he.out.trans Hs.out)⟩
               · have hend:J6 Ej s k=j:=by rw [he.out,QW (by omega)]
                 have Hkj:Hid (k < j):=Lib.hid (by
                   have:=MT s k
                   rw [Hto.out,hend] at this;exact this)
                 have Hr2:Hid (Qv s k (QK pre)=⟨1,s.extract k j,k⟩ :: Qv s j true):=Lib.hid (by rw [Hr.out,hend])
                 have Hfw:=Lib.hid (C7 (k:=k) hj)
                 clear hend
                 by_cases h16:16 < j - k
                 · have hgt:16 < (j:Int) - k:=by omega
                   have Hf:Hid (JV ⟨1,s.extract k j,k⟩=42):=Lib.hid (by rw [Hfw.out,if_pos h16])
                   have Hj16:=Lib.hid h16
                   clear h16
                   go_wp2
                   go_returns
                   exact HI.out.err (t:=⟨1,s.extract k j,k⟩) Hr2.out Hf.out (by decide) hs HI.out.below
                 · have hgt:¬ 16 < (j:Int) - k:=by omega
                   have Hf:Hid (JV ⟨1,s.extract k j,k⟩=0):=Lib.hid (by rw [Hfw.out,if_neg h16])
                   clear h16
                   go_wp2_with (at_builtin;go_must (refine Qm _ rfl _ _ 94 rfl w.heap.size 98 i0 (.agg #[.int .i64 0,.string ⟨#[]⟩,.int .i64 0]) 3 32 Tryz.underlying94 hi hz0 hz1 hz2 rfl (by decide) _ _ _ rfl ((HI.out.ownN Hn.out).alloc _) ⟨wr.heap.size,0,none⟩ 1 1 [.int .i64 1,.string (s.extract k j),.int .i64 k] rfl rfl (Qu _ _ _ _ _) (by simp [Value.oneCell']) (by unfold maxLen;omega) (by omega) (by simp;omega) (by decide) ?_;intro g' cap' w1 hown' hgrow hblk))
                   go_roundg (s.size - j)
                   case measure=>rw [hm.out];have:=Hkj.out;omega
                   case rel=>exact ⟨pre++[⟨1,s.extract k j,k⟩],j,Lib.hid rfl,rfl,HI.out.put (t:=⟨1,s.extract k j,k⟩) Hn.out Hr2.out Hf.out (by omega) hown' (by repeat (first | with_reducible exact HI.out.below | with_reducible refine Below.drew ?_ | with_reducible refine below_drewN ?_ _ | with_reducible refine Below.alloc ?_ (by have:=HI.out.below.size;simp;omega) _)) hgrow⟩
           · have Hl:Hid ((cls s[k].toNat == 3)=false):=Lib.hid (by rw [hc];exact beq_eq_false_iff_ne.2 h3)
             by_cases h4:c=4
             · subst h4
               have Hd:Hid (Qx s[k].toNat=true):=Lib.hid (by unfold Qx;rw [hc];rfl)
               obtain ⟨ht,hto⟩:=XiU hlt hc
               have hr:=Hrt.out
               rw [ht,hto] at hr
               have Hr:=Lib.hid hr
               have Hto:=Lib.hid hto
               clear hc hpl h1 h2 h7 h3 hn hr ht hto
               go_wp2_with (first | (go_at_call 56;refine (QO _ _ _ Hl.out).mono ?_;rintro e w' ⟨rfl,rfl⟩) | (go_at_call 58;refine (QM _ _ _ Hd.out).mono ?_;rintro e w' ⟨rfl,rfl⟩))
               go_loopg [6] (s.size - k) (fun m2 at2 wr2=>∃ j:Nat,Hid (m2=s.size - j)∧at2 = .int .i64 j∧k≤j∧j≤s.size∧wr=wr2∧Hid (J6 Qx s k=J6 Qx s j))
               case atStart=>exact ⟨k,Lib.hid rfl,rfl,Nat.le_refl _,hk,rfl,Lib.hid rfl⟩
               case round=>
                 obtain ⟨j,hm2,rfl,hkj,hj,rfl,he⟩:=hrel
                 by_cases hlt2:j < s.size
                 · cases hg:Qx s[j].toNat
                   · have Hg:=Lib.hid hg
                     have hend:J6 Qx s k=j:=by rw [he.out,QB hlt2 hg]
                     clear hg
                     have Hkj:Hid (k < j):=Lib.hid (by
                       have:=MT s k
                       rw [Hto.out,hend] at this;exact this)
                     have Hr2:Hid (Qv s k (QK pre)=⟨2,s.extract k j,k⟩ :: Qv s j true):=Lib.hid (by rw [Hr.out,hend])
                     have Hfd:=Lib.hid (Xb7 (s:=s) (k:=k) (j:=j))
                     clear hend
                     cases ho:Nv (s.extract k j)
                     · have Hf:Hid (JV ⟨2,s.extract k j,k⟩=41):=Lib.hid (by rw [Hfd.out,ho];rfl)
                       have Ho:=Lib.hid ho
                       clear ho
                       go_wp2_with (first | (go_at_call 59;go_must (refine (D1 _ _ (by rw [ByteArray.size_extract];unfold maxLen;omega) _ Ho.out).mono ?_;rintro e w' ⟨rfl,rfl⟩)) | (go_at_call 58;refine (QM _ _ _ Hg.out).mono ?_;rintro e w' ⟨rfl,rfl⟩))
                       go_returns
                       exact HI.out.err (t:=⟨2,s.extract k j,k⟩) Hr2.out Hf.out (by decide) hs HI.out.below
                     · have Hf:Hid (JV ⟨2,s.extract k j,k⟩=0):=Lib.hid (by rw [Hfd.out,ho];rfl)
                       have Ho:=Lib.hid ho
                       clear ho
                       go_wp2_with (first | (go_at_call 59;go_must (refine (D1 _ _ (by rw [ByteArray.size_extract];unfold maxLen;omega) _ Ho.out).mono ?_;rintro e w' ⟨rfl,rfl⟩)) | (at_builtin;go_must (refine Qm _ rfl _ _ 94 rfl w.heap.size 98 i0 (.agg #[.int .i64 0,.string ⟨#[]⟩,.int .i64 0]) 3 32 Tryz.underlying94 hi hz0 hz1 hz2 rfl (by decide) _ _ _ rfl ((HI.out.ownN Hn.out).alloc _) ⟨wr.heap.size,0,none⟩ 1 1 [.int .i64 2,.string (s.extract k j),.int .i64 k] rfl rfl (Qu _ _ _ _ _) (by simp [Value.oneCell']) (by unfold maxLen;omega) (by omega) (by simp;omega) (by decide) ?_;intro g' cap' w1 hown' hgrow hblk)) | (go_at_call 58;refine (QM _ _ _ Hg.out).mono ?_;rintro e w' ⟨rfl,rfl⟩))
                       go_roundg (s.size - j)
                       case measure=>rw [hm.out];have:=Hkj.out;omega
                       case rel=>exact ⟨pre++[⟨2,s.extract k j,k⟩],j,Lib.hid rfl,rfl,HI.out.put (t:=⟨2,s.extract k j,k⟩) Hn.out Hr2.out Hf.out (by omega) hown' (by repeat (first | with_reducible exact HI.out.below | with_reducible refine Below.drew ?_ | with_reducible refine below_drewN ?_ _ | with_reducible refine Below.alloc ?_ (by have:=HI.out.below.size;simp;omega) _)) hgrow⟩
                   · have Hs:=Lib.hid (Qg hlt2 hg)
                     have Hg:=Lib.hid hg
                     clear hg
                     go_wp2_with (go_at_call 58;refine (QM _ _ _ Hg.out).mono ?_;rintro e w' ⟨rfl,rfl⟩)
                     go_roundg (s.size - (j+1))
                     case measure=>rw [hm2.out];omega
                     case rel=>exact ⟨j+1,Lib.hid rfl,by go_num,by omega,by omega,rfl,Lib.hid (he.out.trans Hs.out)⟩
                 · have hend:J6 Qx s k=j:=by rw [he.out,QW (by omega)]
                   have Hkj:Hid (k < j):=Lib.hid (by
                     have:=MT s k
                     rw [Hto.out,hend] at this;exact this)
                   have Hr2:Hid (Qv s k (QK pre)=⟨2,s.extract k j,k⟩ :: Qv s j true):=Lib.hid (by rw [Hr.out,hend])
                   have Hfd:=Lib.hid (Xb7 (s:=s) (k:=k) (j:=j))
                   clear hend
                   cases ho:Nv (s.extract k j)
                   · have Hf:Hid (JV ⟨2,s.extract k j,k⟩=41):=Lib.hid (by rw [Hfd.out,ho];rfl)
                     have Ho:=Lib.hid ho
                     clear ho
                     go_wp2_with ((go_at_call 59;go_must (refine (D1 _ _ (by rw [ByteArray.size_extract];unfold maxLen;omega) _ Ho.out).mono ?_;rintro e w' ⟨rfl,rfl⟩)))
                     go_returns
                     exact HI.out.err (t:=⟨2,s.extract k j,k⟩) Hr2.out Hf.out (by decide) hs HI.out.below
                   · have Hf:Hid (JV ⟨2,s.extract k j,k⟩=0):=Lib.hid (by rw [Hfd.out,ho];rfl)
                     have Ho:=Lib.hid ho
                     clear ho
                     go_wp2_with (first | (go_at_call 59;go_must (refine (D1 _ _ (by rw [ByteArray.size_extract];unfold maxLen;omega) _ Ho.out).mono ?_;rintro e w' ⟨rfl,rfl⟩)) | (at_builtin;go_must (refine Qm _ rfl _ _ 94 rfl w.heap.size 98 i0 (.agg #[.int .i64 0,.string ⟨#[]⟩,.int .i64 0]) 3 32 Tryz.underlying94 hi hz0 hz1 hz2 rfl (by decide) _ _ _ rfl ((HI.out.ownN Hn.out).alloc _) ⟨wr.heap.size,0,none⟩ 1 1 [.int .i64 2,.string (s.extract k j),.int .i64 k] rfl rfl (Qu _ _ _ _ _) (by simp [Value.oneCell']) (by unfold maxLen;omega) (by omega) (by simp;omega) (by decide) ?_;intro g' cap' w1 hown' hgrow hblk)))
                     go_roundg (s.size - j)
                     case measure=>rw [hm.out];have:=Hkj.out;omega
                     case rel=>exact ⟨pre++[⟨2,s.extract k j,k⟩],j,Lib.hid rfl,rfl,HI.out.put (t:=⟨2,s.extract k j,k⟩) Hn.out Hr2.out Hf.out (by omega) hown' (by repeat (first | with_reducible exact HI.out.below | with_reducible refine Below.drew ?_ | with_reducible refine below_drewN ?_ _ | with_reducible refine Below.alloc ?_ (by have:=HI.out.below.size;simp;omega) _)) hgrow⟩
             · have Hd:Hid (Qx s[k].toNat=false):=Lib.hid (by unfold Qx;rw [hc];exact beq_eq_false_iff_ne.2 h4)
               obtain ⟨ht,hto⟩:=Xhc hlt (by rw [hc];exact h3) (by rw [hc];exact h4)
               have hr:=Hrt.out
               rw [ht,hto] at hr
               have Hr:=Lib.hid hr
               have hca:Nx s k=c:=by unfold Nx;rw [dif_pos hlt,hc]
               clear hpl h1 h2 h7 h3 h4 hn hr ht hto
               cases he2:Lq s k
               · by_cases h6:c=6
                 · rw [← hc] at h6 hca
                   clear hc
                   have Hsl:Hid (NH s k=1):=Lib.hid (by unfold NH;rw [if_neg (by rw [he2];decide),hca,if_pos h6])
                   have hk2:k+1≤s.size:=by omega
                   have Hr2:Hid (Qv s k (QK pre)=⟨3,s.extract k (k+1),k⟩ :: Qv s (k+1) true):=Lib.hid (by rw [Hr.out];unfold NS;rw [if_neg (by rw [he2];decide)])
                   have Hf:Hid (JV ⟨3,s.extract k (k+1),k⟩=0):=Lib.hid (by rw [Dw hlt (by omega) hk2,if_pos h6])
                   clear hca h6 he2
                   go_wp2_with (first | (go_at_call 56;refine (QO _ _ _ Hl.out).mono ?_;rintro e w' ⟨rfl,rfl⟩) | (go_at_call 58;refine (QM _ _ _ Hd.out).mono ?_;rintro e w' ⟨rfl,rfl⟩) | (go_at_call 60;go_must (refine (Bt s k _ hs hlt).mono ?_;rintro e w' ⟨rfl,dn,rfl⟩;rw [Hsl.out])) | (at_builtin;go_must (refine Qm _ rfl _ _ 94 rfl w.heap.size 98 i0 (.agg #[.int .i64 0,.string ⟨#[]⟩,.int .i64 0]) 3 32 Tryz.underlying94 hi hz0 hz1 hz2 rfl (by decide) _ _ _ rfl ((HI.out.ownN Hn.out).alloc _) ⟨wr.heap.size,0,none⟩ 1 1 [.int .i64 3,.string (s.extract k (k+1)),.int .i64 k] rfl rfl (Qu _ _ _ _ _) (by simp [Value.oneCell']) (by unfold maxLen;omega) (by omega) (by simp;omega) (by decide) ?_;intro g' cap' w1 hown' hgrow hblk)))
                   go_roundg (s.size - (k+1))
                   case measure=>rw [hm.out];omega
                   case rel=>exact ⟨pre++[⟨3,s.extract k (k+1),k⟩],k+1,Lib.hid rfl,by go_num,HI.out.put (t:=⟨3,s.extract k (k+1),k⟩) Hn.out Hr2.out Hf.out (by omega) hown' (by repeat (first | with_reducible exact HI.out.below | with_reducible refine Below.drew ?_ | with_reducible refine below_drewN ?_ _ | with_reducible refine Below.alloc ?_ (by have:=HI.out.below.size;simp;omega) _)) hgrow⟩
                 · have Hsl:Hid (NH s k=0):=Lib.hid (by unfold NH;rw [if_neg (by rw [he2];decide),hca,if_neg h6])
                   have Hf:Hid (JV ⟨3,s.extract k (NS s k),k⟩=40):=Lib.hid (by rw [Dw hlt (by unfold NS;rw [if_neg (by rw [he2];decide)];omega) (by unfold NS;rw [if_neg (by rw [he2];decide)];omega),if_neg (by rw [hc];exact h6)])
                   clear hca h6 he2 hc
                   go_wp2_with (first | (go_at_call 56;refine (QO _ _ _ Hl.out).mono ?_;rintro e w' ⟨rfl,rfl⟩) | (go_at_call 58;refine (QM _ _ _ Hd.out).mono ?_;rintro e w' ⟨rfl,rfl⟩) | (go_at_call 60;go_must (refine (Bt s k _ hs hlt).mono ?_;rintro e w' ⟨rfl,dn,rfl⟩;rw [Hsl.out])))
                   go_returns
                   exact HI.out.err (t:=⟨3,s.extract k (NS s k),k⟩) Hr.out Hf.out (by decide) hs (by repeat (first | with_reducible exact HI.out.below | with_reducible refine Below.drew ?_ | with_reducible refine below_drewN ?_ _ | with_reducible refine Below.alloc ?_ (by have:=HI.out.below.size;simp;omega) _))
               · have h6:=Xgj he2 hlt
                 clear hc
                 have Hsl:Hid (NH s k=2):=Lib.hid (by unfold NH;rw [if_pos he2])
                 have hk2:k+2≤s.size:=by have:=XhT he2;omega
                 have Hr2:Hid (Qv s k (QK pre)=⟨3,s.extract k (k+2),k⟩ :: Qv s (k+2) true):=Lib.hid (by rw [Hr.out];unfold NS;rw [if_pos he2])
                 have Hf:Hid (JV ⟨3,s.extract k (k+2),k⟩=0):=Lib.hid (by rw [Dw hlt (by omega) hk2,if_pos h6])
                 clear hca h6 he2
                 go_wp2_with (first | (go_at_call 56;refine (QO _ _ _ Hl.out).mono ?_;rintro e w' ⟨rfl,rfl⟩) | (go_at_call 58;refine (QM _ _ _ Hd.out).mono ?_;rintro e w' ⟨rfl,rfl⟩) | (go_at_call 60;go_must (refine (Bt s k _ hs hlt).mono ?_;rintro e w' ⟨rfl,dn,rfl⟩;rw [Hsl.out])) | (at_builtin;go_must (refine Qm _ rfl _ _ 94 rfl w.heap.size 98 i0 (.agg #[.int .i64 0,.string ⟨#[]⟩,.int .i64 0]) 3 32 Tryz.underlying94 hi hz0 hz1 hz2 rfl (by decide) _ _ _ rfl ((HI.out.ownN Hn.out).alloc _) ⟨wr.heap.size,0,none⟩ 1 1 [.int .i64 3,.string (s.extract k (k+2)),.int .i64 k] rfl rfl (Qu _ _ _ _ _) (by simp [Value.oneCell']) (by unfold maxLen;omega) (by omega) (by simp;omega) (by decide) ?_;intro g' cap' w1 hown' hgrow hblk)))
                 go_roundg (s.size - (k+2))
                 case measure=>rw [hm.out];omega
                 case rel=>exact ⟨pre++[⟨3,s.extract k (k+2),k⟩],k+2,Lib.hid rfl,by go_num,HI.out.put (t:=⟨3,s.extract k (k+2),k⟩) Hn.out Hr2.out Hf.out (by omega) hown' (by repeat (first | with_reducible exact HI.out.below | with_reducible refine Below.drew ?_ | with_reducible refine below_drewN ?_ _ | with_reducible refine Below.alloc ?_ (by have:=HI.out.below.size;simp;omega) _)) hgrow⟩
   · have hks:k=s.size:=by omega
     have Hks:=Lib.hid hks
     have HI:=Lib.hid hI
     clear hI
     rcases HI.out.last with ⟨rfl,rfl⟩ | ⟨n,t,g,cap,hn,rfl,hc0,ho⟩
     · clear hks hpl hown
       go_wp2
       go_returns
       exact HI.out.fin Hks.out hs rfl
     · have hnl:n+1≤2 * s.size+1:=by rw [← hn];exact hpl
       cases hk4:(t != 4)
       · have ht:t=4:=by simpa using hk4
         have Ho:Hid (QK pre=false):=Lib.hid (by rw [ho,hk4])
         have Hn:=Lib.hid hn
         subst ht
         clear hks hpl hk4 hn ho hown
         go_wp2
         go_returns
         exact HI.out.fin Hks.out hs Ho.out
       · have Hr:Hid (Qv s k (QK pre)=⟨4,ByteArray.empty,s.size⟩ :: Qv s s.size false):=Lib.hid (by rw [hks,XaA,XaA,ho,hk4];rfl)
         have ht:((t:Nat):Int) ≠ 4:=by
           have:t ≠ 4:=by simpa using hk4
           omega
         have Hn:=Lib.hid hn
         clear hks hpl hk4 hn ho hown
         go_wp2_with (at_builtin;go_must (refine Qm _ rfl _ _ 94 rfl w.heap.size 98 i0 (.agg #[.int .i64 0,.string ⟨#[]⟩,.int .i64 0]) 3 32 Tryz.underlying94 hi hz0 hz1 hz2 rfl (by decide) _ _ _ rfl ((HI.out.ownN Hn.out).alloc _) ⟨wr.heap.size,0,none⟩ 1 1 [.int .i64 4,.string ⟨#[]⟩,.int .i64 s.size] rfl rfl (Qu _ _ _ _ _) (by simp [Value.oneCell']) (by unfold maxLen;omega) (by omega) (by simp;omega) (by decide) ?_;intro g' cap' w1 hown' hgrow hblk))
         go_returns
         exact (HI.out.put (t:=⟨4,ByteArray.empty,s.size⟩) (k':=s.size) Hn.out Hr.out rfl (Nat.le_refl _) hown' (by repeat (first | with_reducible exact HI.out.below | with_reducible refine Below.drew ?_ | with_reducible refine below_drewN ?_ _ | with_reducible refine Below.alloc ?_ (by have:=HI.out.below.size;simp;omega) _)) hgrow).fin rfl hs (by rw [Ei];rfl)
set_option maxRecDepth 100000 in
theorem Xfx (s:ByteArray) (w:World) (hl:16384 < s.size) (hs:s.size≤maxLen):Calls Tryz.prog 29 #[.string s] w (Li s w):=by
 unfold maxLen at hs
 go_enter Tryz.func29,Tryz.ntmps29
 go_wp2
 go_returns
 exact ⟨Below.refl _ _,.inl ⟨0,3,by unfold QI;rw [if_pos hl],rfl⟩⟩
theorem Xhs (s:ByteArray) (w:World) (hs:s.size≤maxLen):Calls Tryz.prog 29 #[.string s] w (Li s w):=by
 by_cases hl:16384 < s.size
 · exact Xfx s w hl hs
 · exact Xes s w (by omega)
end Go.Proofs.YtcpehikcegoojaaGreatDoor
