/-
  Plain Lean: the tokens of two sources joined by a newline. Nothing of the program. Conditions: none.
-/
import Derived.Test.YtkchaoajegkadaaGreatDoorLexK
set_option linter.unusedSimpArgs false
set_option linter.unusedVariables false
namespace Go.Proofs.YtkchaoajegkadaaGreatDoor
-- JoinsP
theorem app_left {a c:ByteArray} {i:Nat} (h:i < a.size):∃ h':i < (a++c).size,(a++c)[i]=a[i]:=by
 have h':i < (a++c).size:=by rw [ByteArray.size_append];omega
 refine ⟨h',?_⟩
 exact ByteArray.getElem_append_left h
theorem app_right {a c:ByteArray} {i:Nat} (h:i < c.size):∃ h':a.size+i < (a++c).size,(a++c)[a.size+i]=c[i]:=by
 have h':a.size+i < (a++c).size:=by rw [ByteArray.size_append];omega
 refine ⟨h',?_⟩
 have:=ByteArray.getElem_append_right (a:=a) (b:=c) (i:=a.size+i) (h:=h') (by omega)
 rw [this]
 congr 1
 omega
theorem ext_left {a c:ByteArray} {i e:Nat} (h:e≤a.size):(a++c).extract i e=a.extract i e:=by
 apply ByteArray.ext
 simp only [ByteArray.data_extract,ByteArray.data_append]
 have hs:a.size=a.data.size:=rfl
 rw [Array.extract_append,Array.extract_eq_empty_of_le (i:=i - a.data.size) (j:=e - a.data.size)]
 · simp
 · omega
theorem ext_right {a c:ByteArray} {i e:Nat}:(a++c).extract (a.size+i) (a.size+e)=c.extract i e:=by
 apply ByteArray.ext
 simp only [ByteArray.data_extract,ByteArray.data_append]
 have hs:a.size=a.data.size:=rfl
 rw [hs,Array.extract_append,Array.extract_eq_empty_of_le (i:=a.data.size+i)]
 · simp
 · omega
variable {a c:ByteArray} {k:Nat}
theorem runTo_suf {p:Int→Bool}:∀ (n k:Nat),c.size - k=n→k≤c.size→runTo p (a++c) (a.size+k)=a.size+runTo p c k:=by
 intro n
 induction n with
 | zero=>
   intro k h1 h2
   rw [runTo_end (s:=c) (by omega),runTo_end (by rw [ByteArray.size_append];omega)]
 | succ n ih=>
   intro k h1 h2
   have hk:k < c.size:=by omega
   obtain ⟨h3,h4⟩:=app_right (a:=a) hk
   cases hq:p c[k].toNat with
   | true=>rw [runTo_step hk hq,runTo_step h3 (by rw [h4];exact hq)];exact ih (k+1) (by omega) (by omega)
   | false=>rw [runTo_stop hk hq,runTo_stop h3 (by rw [h4];exact hq)]
theorem clsAt_pre (hk:k < a.size):clsAt (a++c) k=clsAt a k:=by
 obtain ⟨h3,h4⟩:=app_left (c:=c) hk
 unfold clsAt;rw [dif_pos h3,dif_pos hk,h4]
theorem clsAt_suf (hk:k < c.size):clsAt (a++c) (a.size+k)=clsAt c k:=by
 obtain ⟨h3,h4⟩:=app_right (a:=a) hk
 unfold clsAt;rw [dif_pos h3,dif_pos hk,h4]
theorem isEq2_suf (hk:k < c.size):isEq2 (a++c) (a.size+k)=isEq2 c k:=by
 obtain ⟨h3,h4⟩:=app_right (a:=a) hk
 unfold isEq2
 by_cases h1:k+1 < c.size
 · obtain ⟨h5,h6⟩:=app_right (a:=a) h1
   have h5':a.size+k+1 < (a++c).size:=by omega
   have h6':(a++c)[a.size+k+1]=c[k+1]:=h6
   rw [dif_pos h5',dif_pos h1,h4,h6']
 · rw [dif_neg h1,dif_neg (by rw [ByteArray.size_append];omega)]
theorem tokTo_suf (hk:k < c.size):tokTo (a++c) (a.size+k)=a.size+tokTo c k:=by
 unfold tokTo wordTo numTo signTo
 rw [clsAt_suf hk,isEq2_suf hk,Nat.add_assoc,runTo_suf _ _ rfl (by omega),runTo_suf _ _ rfl (by omega)]
 repeat' split
 all_goals omega
def Tok.shift (d:Nat) (t:Tok):Tok:=⟨t.kind,t.text,t.pos+d⟩
theorem tokAt_suf (hk:k < c.size):tokAt (a++c) (a.size+k)=(tokAt c k).shift a.size:=by
 unfold tokAt Tok.shift
 rw [tokTo_suf hk,clsAt_suf hk,ext_right,Nat.add_comm]
theorem rest_suf:∀ (n k:Nat) (o:Bool),c.size - k=n→k≤c.size→restT (a++c) (a.size+k) o=(restT c k o).map (Tok.shift a.size):=by
 intro n
 induction n using Nat.strongRecOn with
 | ind n ih=>
   intro k o h1 h2
   by_cases hk:k < c.size
   · obtain ⟨h3,h4⟩:=app_right (a:=a) hk
     by_cases c1:cls c[k].toNat=1
     · rw [rest_blank o hk c1,rest_blank o h3 (by rw [h4];exact c1)]
       exact ih _ (by omega) (k+1) o rfl (by omega)
     · by_cases c7:cls c[k].toNat=7
       · rw [rest_hash o hk c7,rest_hash o h3 (by rw [h4];exact c7),runTo_suf _ _ rfl h2]
         have hs:runTo (fun n=>cls n != 2) c k=runTo (fun n=>cls n != 2) c (k+1):=runTo_step hk (by simp [c7])
         have hg:=runTo_ge (fun n=>cls n != 2) c (k+1)
         have hl:=runTo_le (fun n=>cls n != 2) c k h2
         exact ih _ (by omega) _ o rfl hl
       · by_cases c2:cls c[k].toNat=2
         · rw [rest_nl o hk c2,rest_nl o h3 (by rw [h4];exact c2),List.map_append,← ih _ (by omega) (k+1) false rfl (by omega)]
           cases o
           · rfl
           · simp only [Tok.shift,if_true,List.map_cons,List.map_nil,Nat.add_comm k,Nat.add_assoc]
         · have hg:=tokTo_gt c k
           have hl:=tokTo_le c k hk
           rw [rest_tok o hk c1 c2 c7,rest_tok o h3 (by rw [h4];exact c1) (by rw [h4];exact c2) (by rw [h4];exact c7),tokAt_suf hk,tokTo_suf hk,ih _ (by omega) _ true rfl hl]
           rfl
   · have:k=c.size:=by omega
     subst this
     have he:a.size+c.size=(a++c).size:=by rw [ByteArray.size_append]
     rw [rest_end,he,rest_end]
     cases o
     · rfl
     · simp [Tok.shift,Nat.add_comm]
def joined (a b:ByteArray):ByteArray:=a++⟨#[10]⟩++b
-- TypP
structure AT where
 kind:Int
 text:ByteArray
 pos:Int
def AT.val (t:AT):Value:=.agg #[.int .u8 t.kind,.string t.text,.int .i64 t.pos]
def AT.cells (t:AT):List Value:=[.int .u8 t.kind,.string t.text,.int .i64 t.pos]
def Tok.up (t:Tok):AT:=⟨t.kind,t.text,t.pos⟩
-- Lexed
open Go.RowKit
def ups (ts:List Tok):List AT:=ts.map Tok.up
-- BackP
variable {a c:ByteArray} {k:Nat}
def St (c:ByteArray):Prop:=∀ h:0 < c.size,c[0].toNat=10∨c[0].toNat=32
theorem st_at (hn:St c) (h:a.size < (a++c).size):(a++c)[a.size].toNat=10∨(a++c)[a.size].toNat=32:=by
 have hc:0 < c.size:=by rw [ByteArray.size_append] at h;omega
 obtain ⟨h2,h3⟩:=app_right (a:=a) hc
 have h4:(a++c)[a.size]=c[0]:=h3
 rw [h4];exact hn hc
theorem runTo_st {p:Int→Bool} (hp:p 10=false) (hq:p 32=false) (hn:St c):∀ (n k:Nat),a.size - k=n→k≤a.size→runTo p (a++c) k=runTo p a k:=by
 intro n
 induction n with
 | zero=>
   intro k h1 h2
   have:k=a.size:=by omega
   subst this;rw [runTo_end (Nat.le_refl _)]
   by_cases h3:a.size < (a++c).size
   · refine runTo_stop h3 ?_
     rcases st_at hn h3 with h4 | h4 <;> rw [h4]
     · exact hp
     · exact hq
   · exact runTo_end (by omega)
 | succ n ih=>
   intro k h1 h2
   have hk:k < a.size:=by omega
   obtain ⟨h3,h4⟩:=app_left (c:=c) hk
   cases hq:p a[k].toNat with
   | true=>rw [runTo_step hk hq,runTo_step h3 (by rw [h4];exact hq)];exact ih (k+1) (by omega) (by omega)
   | false=>rw [runTo_stop hk hq,runTo_stop h3 (by rw [h4];exact hq)]
theorem isEq2_st (hn:St c) (hk:k < a.size):isEq2 (a++c) k=isEq2 a k:=by
 obtain ⟨h3,h4⟩:=app_left (c:=c) hk
 unfold isEq2
 by_cases h1:k+1 < a.size
 · obtain ⟨h5,h6⟩:=app_left (c:=c) h1
   rw [dif_pos h5,dif_pos h1,h4,h6]
 · rw [dif_neg h1]
   have he:k+1=a.size:=by omega
   split
   · rename_i h7
     have h8:(a++c)[k+1].toNat=10∨(a++c)[k+1].toNat=32:=by
       have:=st_at hn (a:=a) (by omega)
       simp only [he];exact this
     rcases h8 with h8 | h8 <;> rw [h8] <;> simp
   · rfl
theorem tokTo_st (hn:St c) (hk:k < a.size):tokTo (a++c) k=tokTo a k:=by
 unfold tokTo wordTo numTo signTo
 rw [clsAt_pre hk,isEq2_st hn hk,runTo_st (by rfl) (by rfl) hn _ _ rfl (by omega),runTo_st (by rfl) (by rfl) hn _ _ rfl (by omega)]
theorem runTo_cut {p:Int→Bool}:∀ (n k:Nat),a.size - k=n→k≤a.size→runTo p (a++c) k=a.size→runTo p a k=a.size:=by
 intro n
 induction n with
 | zero=>
   intro k h1 h2 _
   have:k=a.size:=by omega
   subst this
   exact runTo_end (Nat.le_refl _)
 | succ n ih=>
   intro k h1 h2 h5
   have hk:k < a.size:=by omega
   obtain ⟨h3,h4⟩:=app_left (c:=c) hk
   cases hq:p a[k].toNat with
   | true=>
     rw [runTo_step h3 (by rw [h4];exact hq)] at h5
     rw [runTo_step hk hq];exact ih (k+1) (by omega) (by omega) h5
   | false=>rw [runTo_stop h3 (by rw [h4];exact hq)] at h5;omega
theorem tokTo_cut (h0:0 < a.size) (h:tokTo (a++c) 0=a.size):tokTo a 0=a.size:=by
 unfold tokTo wordTo numTo signTo at h ⊢
 rw [clsAt_pre h0] at h
 split at h
 · rw [if_pos (by assumption)];exact runTo_cut _ _ rfl (by omega) h
 · rw [if_neg (by assumption)]
   split at h
   · rw [if_pos (by assumption)];exact runTo_cut _ _ rfl (by omega) h
   · rw [if_neg (by assumption)]
     obtain ⟨h3,h4⟩:=app_left (c:=c) h0
     split at h
     · rename_i h5
       have h1:0+1 < a.size:=by omega
       obtain ⟨h6,h7⟩:=app_left (c:=c) h1
       have:isEq2 a 0=true:=by
         unfold isEq2 at h5 ⊢
         rw [dif_pos h6,h4,h7] at h5
         rw [dif_pos h1];exact h5
       rw [if_pos this];exact h
     · have:isEq2 a 0=false:=by unfold isEq2;rw [dif_neg (by omega)]
       rw [this];simpa using h
def Good (kd:Nat) (tx:ByteArray):Prop:=∃ h:0 < tx.size,cls tx[0].toNat ≠ 1∧cls tx[0].toNat ≠ 2∧cls tx[0].toNat ≠ 7∧kd=tokKind (cls tx[0].toNat)∧tokTo tx 0=tx.size
def kt (t:Tok):Nat × ByteArray:=(t.kind,t.text)
theorem kt_shift (d:Nat) (l:List Tok):(l.map (Tok.shift d)).map kt=l.map kt:=by
 rw [List.map_map];rfl
def K (c:ByteArray) (o:Bool):List (Nat × ByteArray):=(restT c 0 o).map kt
theorem K_suf (x c:ByteArray) (o:Bool):(restT (x++c) x.size o).map kt=K c o:=by
 have h:=rest_suf (a:=x) (c:=c) _ 0 o rfl (Nat.zero_le _)
 rw [Nat.add_zero] at h
 rw [h,kt_shift];rfl
theorem extract_whole (s:ByteArray):s.extract 0 s.size=s:=by simp
theorem K_tok {kd:Nat} {tx post:ByteArray} (o:Bool) (hg:Good kd tx) (hs:St post):K (tx++post) o=(kd,tx) :: K post true:=by
 obtain ⟨h0,c1,c2,c7,hk,ht⟩:=hg
 obtain ⟨h3,h4⟩:=app_left (c:=post) h0
 have e1:tokTo (tx++post) 0=tx.size:=by rw [tokTo_st hs h0,ht]
 have e2:tokAt (tx++post) 0=⟨kd,tx,0⟩:=by
   unfold tokAt
   rw [e1,clsAt_pre h0,ext_left (Nat.le_refl _),extract_whole,hk]
   unfold clsAt;rw [dif_pos h0]
 unfold K
 rw [rest_tok o h3 (by rw [h4];exact c1) (by rw [h4];exact c2) (by rw [h4];exact c7),e1,e2,List.map_cons,K_suf]
 rfl
theorem one_size (b:UInt8):(⟨#[b]⟩:ByteArray).size=1:=rfl
theorem one_at (b:UInt8) (post:ByteArray):∃ h:0 < ((⟨#[b]⟩:ByteArray)++post).size,((⟨#[b]⟩:ByteArray)++post)[0]=b:=by
 obtain ⟨h3,h4⟩:=app_left (a:=(⟨#[b]⟩:ByteArray)) (c:=post) (i:=0) (by rw [one_size];omega)
 exact ⟨h3,h4⟩
theorem K_nl (post:ByteArray) (o:Bool):K ((⟨#[10]⟩:ByteArray)++post) o=(if o then [(4,ByteArray.empty)] else [])++K post false:=by
 obtain ⟨h3,h4⟩:=one_at 10 post
 have h5:(restT ((⟨#[10]⟩:ByteArray)++post) (0+1) false).map kt=K post false:=K_suf ⟨#[10]⟩ post false
 rw [show K ((⟨#[10]⟩:ByteArray)++post) o=(restT ((⟨#[10]⟩:ByteArray)++post) 0 o).map kt from rfl,rest_nl o h3 (by rw [h4];rfl),List.map_append,h5]
 cases o <;> rfl
theorem K_blank (b:UInt8) (hb:cls b.toNat=1) (post:ByteArray) (o:Bool):K ((⟨#[b]⟩:ByteArray)++post) o=K post o:=by
 obtain ⟨h3,h4⟩:=one_at b post
 unfold K
 rw [rest_blank o h3 (by rw [h4];exact hb)]
 exact K_suf ⟨#[b]⟩ post o
theorem K_empty (o:Bool):K ByteArray.empty o=if o then [(4,ByteArray.empty)] else []:=by
 unfold K
 have:restT ByteArray.empty 0 o=restT ByteArray.empty ByteArray.empty.size o:=rfl
 rw [this,rest_end]
 cases o <;> rfl
def G:Bool→List (Nat × ByteArray)→Prop
 | o,[]=>o=false
 | o,t :: r=>if t.1=4 then o=true∧t.2=ByteArray.empty∧G false r else Good t.1 t.2∧G true r
theorem tokKind_ne (n : Int) : tokKind n ≠ 4 := by unfold tokKind; repeat' split
                                                   all_goals omega
theorem split_at {s:ByteArray} {k e:Nat} (h1:k≤e) (h2:e≤s.size):s=s.extract 0 k++(s.extract k e++s.extract e s.size):=by
 apply ByteArray.ext
 simp only [ByteArray.data_extract,ByteArray.data_append]
 have hz:s.size=s.data.size:=rfl
 rw [hz] at h2 ⊢;rw [Array.extract_append_extract,Nat.min_eq_left h1,Nat.max_eq_right h2,Array.extract_append_extract,Nat.max_eq_right (Nat.le_trans h1 h2),Nat.zero_min]
 exact Array.extract_size.symm
theorem good_tok {s:ByteArray} {k:Nat} (h:k < s.size) (c1:cls s[k].toNat ≠ 1) (c2:cls s[k].toNat ≠ 2) (c7:cls s[k].toNat ≠ 7):Good (tokAt s k).kind (tokAt s k).text:=by
 have hg:=tokTo_gt s k
 have hl:=tokTo_le s k h
 have hs:=split_at (s:=s) (k:=k) (e:=tokTo s k) (by omega) hl
 have hz:(s.extract 0 k).size=k:=by rw [ByteArray.size_extract];omega
 have hx:(s.extract k (tokTo s k)).size=tokTo s k - k:=by rw [ByteArray.size_extract];omega
 have h0:0 < (s.extract k (tokTo s k)).size:=by omega
 have e0:(s.extract k (tokTo s k))[0]=s[k]:=by
   rw [ByteArray.getElem_extract];rfl
 have h1:tokTo s k=k+tokTo (s.extract k (tokTo s k)++s.extract (tokTo s k) s.size) 0:=by
   have:=tokTo_suf (a:=s.extract 0 k) (c:=s.extract k (tokTo s k)++s.extract (tokTo s k) s.size) (k:=0) (by rw [ByteArray.size_append,hx];omega)
   rw [← hs,hz,Nat.add_zero] at this
   exact this
 have h2:tokTo (s.extract k (tokTo s k)) 0=(s.extract k (tokTo s k)).size:=tokTo_cut (c:=s.extract (tokTo s k) s.size) h0 (by rw [hx];omega)
 refine ⟨h0,?_,?_,?_,?_,h2⟩
 · simp only [tokAt];rw [e0];exact c1
 · simp only [tokAt];rw [e0];exact c2
 · simp only [tokAt];rw [e0];exact c7
 · simp only [tokAt];rw [e0];unfold clsAt;rw [dif_pos h]
theorem G_rest (s:ByteArray):∀ (n k:Nat) (o:Bool),s.size - k=n→k≤s.size→G o ((restT s k o).map kt):=by
 intro n
 induction n using Nat.strongRecOn with
 | ind n ih=>
   intro k o h1 h2
   by_cases hk:k < s.size
   · by_cases c1:cls s[k].toNat=1
     · rw [rest_blank o hk c1]
       exact ih _ (by omega) (k+1) o rfl (by omega)
     · by_cases c7:cls s[k].toNat=7
       · rw [rest_hash o hk c7]
         have hs:runTo (fun n=>cls n != 2) s k=runTo (fun n=>cls n != 2) s (k+1):=runTo_step hk (by simp [c7])
         have hg:=runTo_ge (fun n=>cls n != 2) s (k+1)
         have hl:=runTo_le (fun n=>cls n != 2) s k h2
         exact ih _ (by omega) _ o rfl hl
       · by_cases c2:cls s[k].toNat=2
         · rw [rest_nl o hk c2]
           have:=ih _ (by omega) (k+1) false rfl (by omega)
           cases o
           · exact this
           · exact (if_pos rfl).mpr ⟨rfl,rfl,this⟩
         · have hg:=tokTo_gt s k
           have hl:=tokTo_le s k hk
           rw [rest_tok o hk c1 c2 c7,List.map_cons]
           exact (if_neg (tokKind_ne _)).mpr ⟨good_tok hk c1 c2 c7,ih _ (by omega) _ true rfl hl⟩
   · have:k=s.size:=by omega
     subst this;rw [rest_end]
     cases o
     · exact rfl
     · exact (if_pos rfl).mpr ⟨rfl,rfl,rfl⟩
theorem G_toks (s:ByteArray):G false ((toks s).map kt):=by rw [toks_rest];exact G_rest s _ 0 false rfl (Nat.zero_le _)
def mk (l:List UInt8):ByteArray:=⟨l.toArray⟩
theorem mk_append (x y:List UInt8):mk (x++y)=mk x++mk y:=by
 apply ByteArray.ext
 rw [ByteArray.data_append]
 simp [mk]
theorem mk_data (s:ByteArray):mk s.data.toList=s:=by apply ByteArray.ext;simp [mk]
theorem mk_size (l:List UInt8):(mk l).size=l.length:=by show l.toArray.size=l.length;simp
end Go.Proofs.YtkchaoajegkadaaGreatDoor
