/- Texts of the claim LTags in one: Number Name PaX PaY PbA. Conditions: none but bounds on sizes. -/
import Derived.Test.YtgbjdhfaklmjcaaGreatZLTags4
import Derived.Test.YtgbjdhfaklmjcaaGreatZLTags0
import Derived.Test.YtgbjdhfaklmjcaaGreatZLTags1
import Derived.Laws.DeepStrings4
import Derived.Lib.Strings
namespace Go.Proofs.YtgbjdhfaklmjcaaGreat
set_option maxRecDepth 20000
set_option linter.unusedVariables false
set_option linter.unusedSimpArgs false
open Go.RowKit
set_option maxHeartbeats 1000000
theorem ret_ib {a b:Int} {c d:Bool} (h:a=b) (h2:c=d):Ending.returned (.tuple #[.int .i64 a,.bool c])= .returned (.tuple #[.int .i64 b,.bool d]):=by rw [h,h2]
theorem numI_false {s:ByteArray} (h:numOk s.data.toList=false):numI s=(0,false):=by unfold numI;rw [h];rfl
theorem numI_true {s:ByteArray} (h:numOk s.data.toList=true):numI s=(((nval s.data.toList:Nat):Int),true):=by unfold numI;rw [h];rfl
theorem ba_len (s:ByteArray):s.data.toList.length=s.size:=by cases s;rfl
theorem ba_head (s:ByteArray) (h:0<s.size):s.data.toList.head? =some s[0]:=by
 rw [List.head?_eq_getElem?,List.getElem?_eq_getElem (by rw [ba_len];exact h)];rfl
theorem specWordOk (n:Int) (w:World):Calls Tryz.prog 95 #[.int .i64 n] w fun e w'=>e= .returned (.bool (decide (-1073741824<=n/\n<=1073741823)))/\w=w':=by
 by_cases h1: -1073741824<=n
 ·
  by_cases h2:n<=1073741823
  · go_enter Tryz.func95,Tryz.ntmps95
    go_wp2
    go_ret
    exact⟨ret_bool (by simp [h1,h2]),rfl⟩
  · have h3:decide (n<=1073741823)=false:=by simpa using h2
    go_enter Tryz.func95,Tryz.ntmps95
    go_wp2
    go_ret
    exact⟨ret_bool (by simp [h2]),rfl⟩
 ·
  have h3:decide (-1073741824<=n)=false:=by simpa using h1
  go_enter Tryz.func95,Tryz.ntmps95
  go_wp2
  go_ret
  exact⟨ret_bool (by simp [h1]),rfl⟩
theorem specNumber (s:ByteArray) (w:World) (hmax:s.size<=9223372036854775807):Calls Tryz.prog 83 #[.string s] w fun e w'=>e= .returned (.tuple #[.int .i64 (numI s).1,.bool (numI s).2])/\Below w.heap.size w w':=by
 have hlen:=LH (ba_len s)
 by_cases h0:s.size<1
 ·
  have hv:=LH (numI_false (s:=s) (by unfold numOk;rw [hlen.out,decide_eq_false (by omega)];rfl))
  have h0':(s.size:Int)<1:=by omega
  go_enter Tryz.func83,Tryz.ntmps83
  go_wp2_with fail
  go_ret2
  exact⟨ret_ib (by rw [hv.out]) (by rw [hv.out]),Below.refl _ _⟩
 have h0n:1<=s.size:=by omega
 have h0':decide ((s.size:Int)<1)=false:=by simp;omega
 by_cases h10:10<s.size
 · have hv:=LH (numI_false (s:=s) (by unfold numOk;rw [hlen.out,decide_eq_false (by omega)];rfl))
   go_enter Tryz.func83,Tryz.ntmps83
   go_wp2_with fail
   go_ret2
   exact⟨ret_ib (by rw [hv.out]) (by rw [hv.out]),Below.refl _ _⟩
 have h10':s.size<=10:=by omega
 have h10d:decide (10<(s.size:Int))=false:=by simp;omega
 go_enter Tryz.func83,Tryz.ntmps83
 go_wp2_with fail
 go_loop [4,5] (fun n i=>∃ k:Nat,k<=s.size/\i= .int .i64 k/\n= .int .i64 (nval (s.data.toList.take k))/\(s.data.toList.take k).all isDig=true) (fun _ i=>s.size - (intOf i).toNat)
 case atStart=>exact⟨0,by omega,by go_num,by simp [nval],by simp⟩
 case round=>
  obtain⟨k,hk,rfl,rfl,hall⟩:=hrel
  have hnv:=nval_lt10 _ (by rw [List.length_take,hlen.out];omega) hall
  have Hall:=LH hall
  clear hall
  by_cases hlt:k<s.size
  ·
   have hts:=LH (take_snoc_b s k hlt)
   have hbad:isDig s[k]=false->numI s=(0,false):=fun h=>numI_false (s:=s) (by unfold numOk;rw [all_take_false (k:=k) (by rw [hlen.out];exact hlt) (by exact h)];simp)
   have Hbad:=LH hbad
   clear hbad
   by_cases hc1:(s[k].toNat:Int)<48
   · have hv:=LH (Hbad.out (decide_eq_false (by omega)))
     go_wp2_with fail
     go_ret2
     exact⟨ret_ib (by rw [hv.out]) (by rw [hv.out]),Below.refl _ _⟩
   have hc1':decide ((s[k].toNat:Int)<48)=false:=by simpa using hc1
   by_cases hc2:57<(s[k].toNat:Int)
   · have hv:=LH (Hbad.out (decide_eq_false (by omega)))
     go_wp2_with fail
     go_ret2
     exact⟨ret_ib (by rw [hv.out]) (by rw [hv.out]),Below.refl _ _⟩
   have hc2':decide (57<(s[k].toNat:Int))=false:=by simpa using hc2
   have Hdk:=LH (show isDig s[k]=true from decide_eq_true (by omega))
   have hdr:48<=(s[k].toNat:Int)/\(s[k].toNat:Int)<=57:=by omega
   go_wp2_with fail
   go_round
   case rel=>exact⟨k+1,by omega,by go_num,by rw [hts.out,nval_snoc];congr 1;omega,by rw [hts.out,List.all_append,Hall.out];simp [Hdk.out]⟩
   case measure=>simp [intOf];omega
  ·
   have hjl:k=s.size:=by omega
   have Hj:=LH (show s.data.toList.take k=s.data.toList from List.take_of_length_le (by rw [hlen.out];omega))
   clear hjl
   have hne:s.data.toList≠[]:=by intro e;have:=hlen.out;rw [e] at this;simp at this;omega
   have hiff:=digU_nval_iff s.data.toList hne (by rw [<- Hj.out];exact Hall.out)
   have hdig:digI ((nval (s.data.toList.take k):Nat):Int)=digU (nval s.data.toList):=by
    unfold digI;rw [if_neg (by omega),Hj.out];congr 1
   have hok:numOk s.data.toList=(decide (nval s.data.toList<=1073741823)&&decide (digU (nval s.data.toList)=s)):=by
    have hse:(⟨s.data.toList.toArray⟩:ByteArray)=s:=by cases s;rfl
    rw [hse] at hiff
    unfold numOk
    rw [hlen.out,decide_eq_true (show 1<=s.size/\s.size<=10 from⟨h0n,h10'⟩),show s.data.toList.all isDig=true from by rw [<- Hj.out];exact Hall.out]
    by_cases hd:digU (nval s.data.toList)=s
    · have h2:=hiff.1 hd
      rw [decide_eq_true hd]
      have:(s.data.toList.head? ==some 48&&decide (1<s.size))=false:=by
       rw [<- Bool.not_eq_true,Bool.and_eq_true,beq_iff_eq,decide_eq_true_iff];intro h;exact h2 (by rw [hlen.out];exact h)
      rw [this];simp
    · have h2:s.data.toList.head? =some 48/\1<s.size:=by
       rcases Classical.em (s.data.toList.head? =some 48/\1<s.data.toList.length) with h | h
       · rw [hlen.out] at h;exact h
       · exact absurd (hiff.2 h) hd
      rw [decide_eq_false hd,h2.1,decide_eq_true h2.2];simp
   have Hok:=LH hok
   have Hdig:=LH hdig
   clear hiff hok hdig hne
   go_wp2_with fail
   refine(specWordOk _ _).mono ?_
   rintro e w1 ⟨rfl,rfl⟩
   by_cases hm:nval (s.data.toList.take k)<=1073741823
   rotate_left
   · have hv:=LH (numI_false (s:=s) (by rw [Hok.out,<- Hj.out,decide_eq_false hm];rfl))
     have hmd:decide (-1073741824<=((nval (s.data.toList.take k):Nat):Int)/\((nval (s.data.toList.take k):Nat):Int)<=1073741823)=false:=decide_eq_false (by omega)
     rw [hmd]
     go_wp2_with fail
     go_ret2
     exact⟨ret_ib (by rw [hv.out]) (by rw [hv.out]),Below.refl _ _⟩
   have hmd:decide (-1073741824<=((nval (s.data.toList.take k):Nat):Int)/\((nval (s.data.toList.take k):Nat):Int)<=1073741823)=true:=decide_eq_true (by omega)
   rw [hmd]
   clear hmd
   go_wp2_with fail
   refine(specDigits _ _ (by omega) (by omega)).mono ?_
   rintro e w2 ⟨rfl,hb2⟩
   by_cases hd:digU (nval s.data.toList)=s
   · have hv:=LH (numI_true (s:=s) (by rw [Hok.out,<- Hj.out,decide_eq_true hm,Hj.out,decide_eq_true hd];rfl))
     have heq:((digI ((nval (s.data.toList.take k):Nat):Int)).toList ==s.toList)=true:=by rw [Hdig.out,hd];simp
     have hne:((digI ((nval (s.data.toList.take k):Nat):Int)).toList != s.toList)=false:=by rw [bne,heq];rfl
     clear hd
     go_wp2_with fail
     go_ret2
     exact⟨ret_ib (by rw [hv.out,Hj.out]) (by rw [hv.out]),hb2⟩
   ·
    have hv:=LH (numI_false (s:=s) (by rw [Hok.out,decide_eq_false hd];simp))
    have hne:((digI ((nval (s.data.toList.take k):Nat):Int)).toList != s.toList)=true:=by
     rw [Hdig.out,bne_iff_ne];intro h;apply hd
     rw [ByteArray.toList_eq,ByteArray.toList_eq] at h
     apply ByteArray.ext;exact Array.toList_inj.1 h
    have heq:((digI ((nval (s.data.toList.take k):Nat):Int)).toList ==s.toList)=false:=by rw [bne,Bool.not_eq_true'] at hne;exact hne
    clear hd
    go_wp2_with fail
    go_ret2
    exact⟨ret_ib (by rw [hv.out]) (by rw [hv.out]),hb2⟩
def smB (c:UInt8):Bool:=decide (97<=c.toNat/\c.toNat<=122)
def lgB (c:UInt8):Bool:=decide (65<=c.toNat/\c.toNat<=90)
def ltB (c:UInt8):Bool:=smB c||lgB c
def firstB (f:UInt8->Bool) (s:ByteArray):Bool:=match s.data.toList with | []=>false | c::_=>f c
def lettersB (f:UInt8->Bool) (s:ByteArray):Bool:=decide (1<=s.size/\s.size<=8)&&firstB f s&&s.data.toList.all ltB
def nameB (s:ByteArray):Bool:=lettersB smB s&&!inStrs kws s
def intS:ByteArray:=⟨#[73,110,116]⟩
def conB (s:ByteArray):Bool:=lettersB lgB s&&!(s.toList ==intS.toList)
theorem firstB_at {f:UInt8->Bool} {s:ByteArray} (h:0<s.size):firstB f s=f s[0]:=by
 have h1:=ba_head s h
 unfold firstB
 cases hl:s.data.toList with
 | nil=>rw [hl] at h1;simp at h1
 | cons a r=>rw [hl] at h1;simp at h1;simp [h1]
theorem specSmall (c:UInt8) (w:World):Calls Tryz.prog 80 #[.int .u8 c.toNat] w fun e w'=>e= .returned (.bool (smB c))/\w=w':=by
 have hd:=LH (show smB c=decide (97<=c.toNat/\c.toNat<=122) from rfl)
 by_cases h1:97<=(c.toNat:Int)
 ·
  by_cases h2:(c.toNat:Int)<=122
  · go_enter Tryz.func80,Tryz.ntmps80
    go_wp2_with fail
    go_ret
    exact⟨ret_bool (by rw [hd.out,decide_eq_true (by omega)]),rfl⟩
  · have h3:decide ((c.toNat:Int)<=122)=false:=by simpa using h2
    go_enter Tryz.func80,Tryz.ntmps80
    go_wp2_with fail
    go_ret
    exact⟨ret_bool (by rw [hd.out,decide_eq_false (by omega)]),rfl⟩
 ·
  have h3:decide (97<=(c.toNat:Int))=false:=by simpa using h1
  go_enter Tryz.func80,Tryz.ntmps80
  go_wp2_with fail
  go_ret
  exact⟨ret_bool (by rw [hd.out,decide_eq_false (by omega)]),rfl⟩
theorem specLarge (c:UInt8) (w:World):Calls Tryz.prog 81 #[.int .u8 c.toNat] w fun e w'=>e= .returned (.bool (lgB c))/\w=w':=by
 have hd:=LH (show lgB c=decide (65<=c.toNat/\c.toNat<=90) from rfl)
 by_cases h1:65<=(c.toNat:Int)
 ·
  by_cases h2:(c.toNat:Int)<=90
  · go_enter Tryz.func81,Tryz.ntmps81
    go_wp2_with fail
    go_ret
    exact⟨ret_bool (by rw [hd.out,decide_eq_true (by omega)]),rfl⟩
  · have h3:decide ((c.toNat:Int)<=90)=false:=by simpa using h2
    go_enter Tryz.func81,Tryz.ntmps81
    go_wp2_with fail
    go_ret
    exact⟨ret_bool (by rw [hd.out,decide_eq_false (by omega)]),rfl⟩
 ·
  have h3:decide (65<=(c.toNat:Int))=false:=by simpa using h1
  go_enter Tryz.func81,Tryz.ntmps81
  go_wp2_with fail
  go_ret
  exact⟨ret_bool (by rw [hd.out,decide_eq_false (by omega)]),rfl⟩
theorem smB_eq (c:UInt8):smB c=smallB c:=by unfold smB smallB;rw [Bool.eq_iff_iff];simp
theorem lgB_eq (c:UInt8):lgB c=largeB c:=by unfold lgB largeB;rw [Bool.eq_iff_iff];simp
theorem drop_cons_at (s:ByteArray) (i:Nat) (h:i<s.size):s.data.toList.drop i=s[i]::s.data.toList.drop (i+1):=by
 have h2:i<s.data.toList.length:=by rw [ba_len];exact h
 rw [List.drop_eq_getElem_cons h2]
 rfl
theorem spanN_step {p:UInt8->Bool} (s:ByteArray) (i:Nat) (h:i<s.size) (hp:p s[i]=true):spanN p (s.data.toList.drop i)=spanN p (s.data.toList.drop (i+1))+1:=by
 rw [drop_cons_at s i h];simp [spanN,hp]
theorem spanN_stop {p:UInt8->Bool} (s:ByteArray) (i:Nat) (h:i<s.size) (hp:p s[i]=false):spanN p (s.data.toList.drop i)=0:=by
 rw [drop_cons_at s i h];simp [spanN,hp]
theorem spanN_end {p:UInt8->Bool} (s:ByteArray) (i:Nat) (h:s.size<=i):spanN p (s.data.toList.drop i)=0:=by
 rw [List.drop_eq_nil_of_le (by rw [ba_len];exact h)];rfl
theorem extract_eq (s:ByteArray) (a b:Nat):s.extract a b=⟨((s.data.toList.drop a).take (b - a)).toArray⟩:=by
 have h:=Lib.extract_data s a b
 cases hx:s.extract a b with
 | mk d=>rw [hx] at h;simp only at h;rw [<- h]
def oneV (l:List UInt8) (at0:Nat):GToken × Nat × Bool:=
 match l with
 | []=>(⟨0,⟨#[]⟩,0,0⟩,0,false)
 | b::r=>
  if smallB b||largeB b then
   let n:=spanN (fun c=>smallB c||largeB c) (b::r)
   (⟨if largeB b then 2 else 1,⟨((b::r).take n).toArray⟩,0,at0⟩,at0+n,decide (n<=8))
  else if digitB b then
   let n:=spanN digitB (b::r)
   (⟨3,⟨#[]⟩,(numI ⟨((b::r).take n).toArray⟩).1,at0⟩,at0+n,(numI ⟨((b::r).take n).toArray⟩).2)
  else(⟨4,⟨(pSignAt (b::r)).toArray⟩,0,at0⟩,at0+(pSignAt (b::r)).length,!(pSignAt (b::r)).isEmpty)
theorem tokN_one (k:Nat) (b:UInt8) (r:List UInt8) (at0:Nat) (acc:List GToken) (hb:(b ==32||b ==10)=false):
 tokN (k+1) (b::r) at0 acc=if(oneV (b::r) at0).2.2 then tokN k ((b::r).drop ((oneV (b::r) at0).2.1 - at0)) (oneV (b::r) at0).2.1 (acc++[(oneV (b::r) at0).1]) else none:=by
 simp only [tokN,hb,oneV]
 by_cases h1:(smallB b||largeB b)=true
 · simp only [h1,if_true,if_false,Bool.false_eq_true,decide_eq_true_eq,Nat.add_sub_cancel_left]
 · simp only [h1,if_false,Bool.false_eq_true]
   by_cases h2:digitB b=true
   · simp only [h2,if_true,Nat.add_sub_cancel_left]
   · simp only [h2,if_false,Bool.false_eq_true,Nat.add_sub_cancel_left]
     cases hs:(pSignAt (b::r)).isEmpty<;>simp [hs]
def signV (s:ByteArray) (i:Nat):ByteArray:=⟨(pSignAt (s.data.toList.drop i)).toArray⟩
def signsC:ByteArray:=⟨#[40,41,123,125,59,61,124,43,45,42,60,95]⟩
theorem ba_eq {a b:ByteArray} (h:a.data.toList=b.data.toList):a=b:=by
 cases a with | mk a=>cases b with | mk b=>simp at h;rw [h]
theorem two_eq (s:ByteArray) (i:Nat) (x y:UInt8) (h:i+1<s.size):((s.extract i (i+2)).toList ==[x,y])=(s[i] ==x&&s[i+1] ==y):=by
 rw [ByteArray.toList_eq,Lib.extract_data,drop_cons_at s i (by omega),drop_cons_at s (i+1) h]
 simp [Nat.add_sub_cancel_left]
theorem signV_two (s:ByteArray) (i:Nat) (h:i+1<s.size) (h2:(((s.extract i (i+2)).toList ==[45,62])||((s.extract i (i+2)).toList ==[61,61]))=true):signV s i=s.extract i (i+2):=by
 rw [two_eq s i _ _ h,two_eq s i _ _ h] at h2
 refine ba_eq ?_
 unfold signV
 rw [Lib.extract_data,drop_cons_at s i (by omega),drop_cons_at s (i+1) h]
 generalize s[i]=a at h2 ⊢
 generalize s[i+1]=b at h2 ⊢
 simp only [Bool.or_eq_true,Bool.and_eq_true,beq_iff_eq] at h2
 rcases h2 with ⟨rfl,rfl⟩ | ⟨rfl,rfl⟩<;>simp [pSignAt,Nat.add_sub_cancel_left]
theorem pSignAt_one (l:List UInt8) (a:UInt8) (h:(∀ b r,l=b::r->((a ==45&&b ==62)||(a ==61&&b ==61))=false)):pSignAt (a::l)=if pSigns.contains a then [a] else []:=by
 unfold pSignAt
 split
 · rename_i r he;simp at he;obtain⟨rfl,rfl⟩:=he;have:=h _ _ rfl;simp at this
 · rename_i r he;simp at he;obtain⟨rfl,rfl⟩:=he;have:=h _ _ rfl;simp at this
 · rename_i x r h1 h2 he;simp at he;obtain⟨rfl,-⟩:=he;rfl
 · rename_i he;simp at he
theorem signV_one (s:ByteArray) (i:Nat) (hi:i<s.size) (h:i+1<s.size->(((s.extract i (i+2)).toList ==[45,62])||((s.extract i (i+2)).toList ==[61,61]))=false):
 signV s i=⟨(if pSigns.contains s[i] then [s[i]] else []).toArray⟩:=by
 unfold signV
 rw [drop_cons_at s i hi,pSignAt_one]
 intro b r he
 by_cases h1:i+1<s.size
 · have h2:=h h1
   rw [two_eq s i _ _ h1,two_eq s i _ _ h1] at h2
   rw [drop_cons_at s (i+1) h1] at he
   obtain⟨rfl,rfl⟩:=List.cons.inj he
   exact h2
 · rw [List.drop_eq_nil_of_le (by rw [ba_len];omega)] at he
   cases he
theorem signsC_size:signsC.size=12:=rfl
theorem signsC_mem (s:ByteArray) (i:Nat) (hi:i<s.size) (j:Nat) (hj:j<signsC.size) (h:(signsC[j] ==s[i])=true):pSigns.contains s[i]=true:=by
 have h1:signsC[j]=s[i]:=by simpa using h
 rw [List.contains_iff_mem,<- h1]
 have h2:signsC[j]=signsC.data.toList[j]'(by rw [ba_len];exact hj):=rfl
 rw [h2]
 exact List.getElem_mem _
theorem signsC_none (b:UInt8) (h:∀ q (hq:q<signsC.size),(signsC[q] ==b)=false):pSigns.contains b=false:=by
 cases hc:pSigns.contains b with
 | false=>rfl
 | true=>
  rw [List.contains_iff_mem] at hc
  obtain⟨q,hq,he⟩:=List.getElem_of_mem (l:=signsC.data.toList) hc
  have h1:=h q (by rw [<- ba_len];exact hq)
  have h2:signsC[q]'(by rw [<- ba_len];exact hq)=signsC.data.toList[q]:=rfl
  rw [h2,he] at h1
  simp at h1
theorem specDigit (c:UInt8) (w:World):Calls Tryz.prog 82 #[.int .u8 c.toNat] w fun e w'=>e= .returned (.bool (digitB c))/\w=w':=by
 have hd:=LH (show digitB c=decide (48<=c.toNat/\c.toNat<=57) by unfold digitB;rw [Bool.eq_iff_iff];simp)
 by_cases h1:48<=(c.toNat:Int)
 ·
  by_cases h2:(c.toNat:Int)<=57
  · go_enter Tryz.func82,Tryz.ntmps82
    go_wp2_with fail
    go_ret
    exact⟨ret_bool (by rw [hd.out,decide_eq_true (by omega)]),rfl⟩
  · have h3:decide ((c.toNat:Int)<=57)=false:=by simpa using h2
    go_enter Tryz.func82,Tryz.ntmps82
    go_wp2_with fail
    go_ret
    exact⟨ret_bool (by rw [hd.out,decide_eq_false (by omega)]),rfl⟩
 ·
  have h3:decide (48<=(c.toNat:Int))=false:=by simpa using h1
  go_enter Tryz.func82,Tryz.ntmps82
  go_wp2_with fail
  go_ret
  exact⟨ret_bool (by rw [hd.out,decide_eq_false (by omega)]),rfl⟩
theorem one_eq (s:ByteArray) (i:Nat) (hi:i<s.size):s.extract i (i+1)=⟨[s[i]].toArray⟩:=by
 refine ba_eq ?_
 rw [Lib.extract_data,drop_cons_at s i hi]
 simp [Nat.add_sub_cancel_left]
theorem u8_beq (a b:UInt8):(((a.toNat:Nat):Int) ==((b.toNat:Nat):Int))=(a ==b):=by
 rw [Bool.eq_iff_iff]
 simp only [beq_iff_eq]
 constructor
 · intro h;exact UInt8.toNat_inj.1 (by omega)
 · rintro rfl;rfl
theorem l2Sign (s:ByteArray) (i:Nat) (w:World) (hi:i<s.size) (hs:s.size<=3000):
 Calls Tryz.prog 84 #[.string s,.int .i64 i] w fun e w'=>e= .returned (.string (signV s i))/\Below w.heap.size w w':=by
 have w1:IntKind.i64.wrap ((i:Int)+1)=(i:Int)+1:=(IntWalk.i64_left _).trans (IntWalk.wrap64_in ((i:Int)+1) (by omega))
 have w2:IntKind.i64.wrap ((i:Int)+2)=(i:Int)+2:=(IntWalk.i64_left _).trans (IntWalk.wrap64_in ((i:Int)+2) (by omega))
 have H2:=LH (signV_two s i)
 have H1:=LH (signV_one s i hi)
 cases d1:decide ((i:Int)+1<(s.size:Int))
 case' true=>cases e1:((s.extract i (i+2)).toList ==[45,62])
 case' true.false=>cases e2:((s.extract i (i+2)).toList ==[61,61])
 case' true.true=>
  have hi2:i+2<=s.size:=by have:=of_decide_eq_true d1;omega
  have hi3:(i:Int)+2<=(s.size:Int):=by omega
  have HV:=LH (H2.out (by have:=of_decide_eq_true d1;omega) (by rw [e1];rfl))
  go_enter Tryz.func84,Tryz.ntmps84
  go_wp2_with fail
  go_ret
  exact⟨by rw [HV.out];rfl,Below.refl _ _⟩
 case' true.false.true=>
  have hi2:i+2<=s.size:=by have:=of_decide_eq_true d1;omega
  have hi3:(i:Int)+2<=(s.size:Int):=by omega
  have HV:=LH (H2.out (by have:=of_decide_eq_true d1;omega) (by rw [e1,e2];rfl))
  go_enter Tryz.func84,Tryz.ntmps84
  go_wp2_with fail
  go_ret
  exact⟨by rw [HV.out];rfl,Below.refl _ _⟩
 case' false=>have HV:=LH (H1.out fun h=>by have:=of_decide_eq_false d1;omega)
 case' true.false.false=>
  have HV:=LH (H1.out fun h=>by rw [e1,e2];rfl)
  have hi2:i+2<=s.size:=by have:=of_decide_eq_true d1;omega
  have hi3:(i:Int)+2<=(s.size:Int):=by omega
 all_goals
  clear H1 H2
  go_enter Tryz.func84,Tryz.ntmps84
  go_wp2_with fail
  rw [show(⟨#[40,41,123,125,59,61,124,43,45,42,60,95]⟩:ByteArray)=signsC from rfl]
  go_loopw [6] (fun v wr=>∃ j:Nat,j<=signsC.size/\v= .int .i64 j/\Hid (∀ q (hq:q<signsC.size),q<j->(signsC[q] ==s[i])=false)/\Hid (Below w.heap.size w wr)) (fun v _=>signsC.size - (intOf v).toNat)
  case atStart=>exact⟨0,by omega,by go_num,LH fun q _ h=>by omega,LH (Below.refl _ _)⟩
  case round=>
   obtain⟨j,hj,rfl,Hn,HB⟩:=hrel
   have hsz:=LH signsC_size
   have hj12:j<=12:=by rw [<- hsz.out];exact hj
   by_cases hlt:j<signsC.size
   ·
    have dl:decide ((j:Int)<(signsC.size:Int))=true:=decide_eq_true (by omega)
    have HE:=LH (u8_beq signsC[j] s[i])
    have HM:=LH (signsC_mem s i hi j hlt)
    cases he:(((signsC[j].toNat:Nat):Int) ==((s[i].toNat:Nat):Int))
    ·
     have HF:=LH (show(signsC[j] ==s[i])=false by rw [<- HE.out];exact he)
     go_wp2_with fail
     go_quiet (fail)
     go_wp2_with fail
     go_roundw
     case rel=>exact⟨j+1,by omega,by go_num,LH fun q hq h=>by
       rcases Nat.lt_or_ge q j with h1 | h1
       · exact Hn.out q hq h1
       · obtain rfl:q=j:=by omega
         exact HF.out,LH (belowN HB.out _)⟩
     case measure=>simp [intOf];omega
    ·
     have HT:=LH (HM.out (by rw [<- HE.out];exact he))
     go_wp2_with fail
     go_quiet (fail)
     go_wp2_with fail
     go_ret
     refine⟨?_,belowN HB.out _⟩
     rw [HV.out,HT.out]
     have:=one_eq s i hi
     rw [if_pos rfl,<- this]
     rfl
   · have dl:decide ((j:Int)<(signsC.size:Int))=false:=decide_eq_false (by omega)
     have HF:=LH (signsC_none s[i] fun q hq=>Hn.out q hq (by omega))
     go_wp2_with fail
     go_ret
     refine⟨?_,HB.out⟩
     rw [HV.out,HF.out]
     rfl
def letB (c:UInt8):Bool:=smallB c||largeB c
theorem oneV_letters (s:ByteArray) (i q:Nat) (hi:i<s.size) (hq:i<=q) (hc:letB s[i]=true) (hn:spanN letB (s.data.toList.drop i)=q - i) (k:Int) (hk:k=if largeB s[i] then 2 else 1):
 oneV (s.data.toList.drop i) i=(⟨k,s.extract i q,0,i⟩,q,decide ((q:Int) - (i:Int)<=8)):=by
 rw [extract_eq]
 rw [drop_cons_at s i hi] at hn ⊢
 unfold letB at hc hn
 subst hk
 simp only [oneV,hc,if_true,hn]
 rw [show i+(q - i)=q by omega,show decide (q - i<=8)=decide ((q:Int) - (i:Int)<=8) by rw [decide_eq_decide];omega]
theorem oneV_digits (s:ByteArray) (i q:Nat) (hi:i<s.size) (hq:i<=q) (hc:letB s[i]=false) (hd:digitB s[i]=true) (hn:spanN digitB (s.data.toList.drop i)=q - i):
 oneV (s.data.toList.drop i) i=(⟨3,⟨#[]⟩,(numI (s.extract i q)).1,i⟩,q,(numI (s.extract i q)).2):=by
 rw [extract_eq]
 rw [drop_cons_at s i hi] at hn ⊢
 unfold letB at hc
 simp only [oneV,hc,hd,if_true,if_false,Bool.false_eq_true,hn]
 rw [show i+(q - i)=q by omega]
theorem oneV_sign (s:ByteArray) (i:Nat) (hi:i<s.size) (hc:letB s[i]=false) (hd:digitB s[i]=false):
 oneV (s.data.toList.drop i) i=(⟨4,signV s i,0,i⟩,i+(signV s i).size,!(signV s i).data.toList.isEmpty):=by
 unfold signV
 rw [drop_cons_at s i hi]
 unfold letB at hc
 simp only [oneV,hc,hd,if_false,Bool.false_eq_true]
 rfl
theorem letB_eq (c:UInt8):letB c=(smB c||lgB c):=by unfold letB;rw [smB_eq,lgB_eq]
def tokA (t:GToken):Value:=.agg #[.int .i64 t.kind,.string t.text,.int .i64 t.n,.int .i64 t.pos]
def TokOneR (s:ByteArray) (i:Nat) (w:World) (e:Ending) (w':World):Prop:=e= .returned (.tuple #[tokA (oneV (s.data.toList.drop i) i).1,.int .i64 (oneV (s.data.toList.drop i) i).2.1,.bool (oneV (s.data.toList.drop i) i).2.2])/\Below w.heap.size w w'
theorem l2One (s:ByteArray) (i:Nat) (w:World) (hi:i<s.size) (hs:s.size<=3000):
 Calls Tryz.prog 61 #[.string s,.int .i64 i] w (TokOneR s i w):=by
 have hi2:(i:Int)<(s.size:Int):=by omega
 have HL:=LH (letB_eq s[i])
 have HS:=LH (show(smB s[i]||lgB s[i])=letB s[i] from(letB_eq s[i]).symm)
 have HLG:=LH (lgB_eq s[i])
 obtain⟨w1,e1,R1,hz1,K1⟩:=boxed w 95 #[.int .i64 0,.string ⟨#[]⟩,.int .i64 0,.int .i64 0]
 have hc1:=fun k=>R1.out.cell k
 have hf1:=fun k=>R1.out.frozen k
 have hl1:=R1.out.lt
 have B1:=LH (show Below w.heap.size w w1 by rw [e1];exact(Below.refl _ _).alloc (Nat.le_refl _) _)
 go_enter Tryz.func61,Tryz.ntmps61
 refine wp_hide (fun BP hBP=>?_)
 have HBP:=LH hBP
 clear hBP
 go_wp2_with fail
 rw [<- e1]
 clear e1
 refine(specSmall s[i] _).mono ?_
 rintro e w2 ⟨rfl,rfl⟩
 cases hsm:smB s[i]
 ·
  go_wp2_with fail
  refine(specLarge s[i] _).mono ?_
  rintro e w2 ⟨rfl,rfl⟩
  cases hlg:lgB s[i]
  ·
   have HNL:=LH (show letB s[i]=false by rw [HL.out,hsm,hlg];rfl)
   go_wp2_with fail
   refine(specDigit s[i] _).mono ?_
   rintro e w2 ⟨rfl,rfl⟩
   cases hdg:digitB s[i]
   ·
    have HEQ0:=LH (oneV_sign s i hi HNL.out hdg)
    have hsz:(signV s i).size<=2:=by
     have h1:=ba_len (signV s i)
     have h2:(pSignAt (s.data.toList.drop i)).length<=2:=by
      unfold pSignAt
      split<;>simp
      split<;>simp
     unfold signV at h1 ⊢
     simp only at h1
     omega
    have HSN:=LH (l2Sign s i w1 hi hs)
    go_wp2_with fail
    refine HSN.out.mono ?_
    rintro e w4 ⟨rfl,hb4⟩
    obtain⟨sg,hsg⟩:∃ x,signV s i=x:=⟨_,rfl⟩
    rw [hsg] at hsz HEQ0 ⊢
    have hwk:IntKind.i64.wrap ((i:Int)+(sg.size:Int))=(i:Int)+(sg.size:Int):=(IntWalk.i64_left _).trans (IntWalk.wrap64_in ((i:Int)+(sg.size:Int)) (by omega))
    have B4:=LH (B1.out.trans (hb4.mono (by omega)))
    have R4:=LH (R1.out.below hb4 R1.out.lt)
    have hc4:=fun k=>R4.out.cell k
    have hf4:=fun k=>R4.out.frozen k
    have hl4:=R4.out.lt
    clear hc1 hf1 hl1 B1 R1 hb4 hsg
    have B1:=B4
    have R1:=R4
    have hc1:=hc4
    clear B4 R4 hc4
    cases hne:(sg.toList ==[])
    ·
     have HEQ:=LH (show oneV (s.data.toList.drop i) i=(⟨4,sg,0,i⟩,i+sg.size,true) by rw [HEQ0.out,<- ByteArray.toList_eq];cases hh:sg.toList<;>simp_all)
     go_wp2_with fail
     obtain⟨w5,e5,R5,hz5,K5⟩:=stored4 R1.out (.int .i64 4) (.string sg) (.int .i64 0) (.int .i64 i)
     rw [<- e5]
     have hc5:=fun k=>R5.out.cell k
     have B5:=LH (B1.out.trans (K5.out.below (B:=w.heap.size) (by omega) (Nat.le_refl _)))
     clear e5 hc1
     show BP _ _
     rw [HBP.out]
     refine bodyPost_ret (v:=.tuple #[.agg #[.int .i64 4,.string sg,.int .i64 0,.int .i64 i],.int .i64 ((i:Int)+(sg.size:Int)),.bool true]) (by simp [results,Tryz.results61,go_sem,hc5]) rfl ?_
     exact⟨by rw [HEQ.out];rfl,B5.out⟩
    ·
     have HEQ:=LH (show oneV (s.data.toList.drop i) i=(⟨4,sg,0,i⟩,i+sg.size,false) by rw [HEQ0.out,<- ByteArray.toList_eq];cases hh:sg.toList<;>simp_all)
     go_wp2_with fail
     obtain⟨w5,e5,R5,hz5,K5⟩:=stored4 R1.out (.int .i64 4) (.string sg) (.int .i64 0) (.int .i64 i)
     rw [<- e5]
     have hc5:=fun k=>R5.out.cell k
     have B5:=LH (B1.out.trans (K5.out.below (B:=w.heap.size) (by omega) (Nat.le_refl _)))
     clear e5 hc1
     show BP _ _
     rw [HBP.out]
     refine bodyPost_ret (v:=.tuple #[.agg #[.int .i64 4,.string sg,.int .i64 0,.int .i64 i],.int .i64 ((i:Int)+(sg.size:Int)),.bool false]) (by simp [results,Tryz.results61,go_sem,hc5]) rfl ?_
     exact⟨by rw [HEQ.out];rfl,B5.out⟩
   ·
    go_wp2_with fail
    go_loop [7] (fun v=>∃ q:Nat,v= .int .i64 q/\i<=q/\q<=s.size/\Hid (spanN digitB (s.data.toList.drop i)=(q - i)+spanN digitB (s.data.toList.drop q))) (fun v=>s.size - (intOf v).toNat)
    case atStart=>exact⟨i,by go_num,Nat.le_refl _,by omega,LH (by omega)⟩
    case round=>
     obtain⟨q,rfl,hiq,hqs,HN⟩:=hrel
     have hn0:=True.intro
     by_cases hlt:q<s.size
     ·
      have dl:decide ((q:Int)<(s.size:Int))=true:=decide_eq_true (by omega)
      have hlt2:(q:Int)<(s.size:Int):=by omega
      have hw1:IntKind.i64.wrap ((q:Int)+1)=(q:Int)+1:=(IntWalk.i64_left _).trans (IntWalk.wrap64_in ((q:Int)+1) (by omega))
      have HST:=LH (spanN_step (p:=digitB) s q hlt)
      have HSP:=LH (spanN_stop (p:=digitB) s q hlt)
      go_wp2_with fail
      refine(specDigit s[q] _).mono ?_
      rintro e w2 ⟨rfl,rfl⟩
      cases hdq:digitB s[q]
      ·
       have HZ:=LH (HSP.out hdq)
       have HEQ:=LH (oneV_digits s i q hi hiq HNL.out hdg (by rw [HN.out,HZ.out];omega))
       clear hn0
       have hsl:(i:Int)<=(q:Int):=by omega
       have hsq:(q:Int)<=(s.size:Int):=by omega
       have hxs:(s.extract i q).size<=9223372036854775807:=by simp [ByteArray.size_extract];omega
       obtain⟨tx,htx⟩:∃ x,s.extract i q=x:=⟨_,rfl⟩
       rw [htx] at hxs HEQ
       have hnw:=LH (specNumber tx w1 hxs)
       go_wp2_with fail
       clear htx
       refine hnw.out.mono ?_
       rintro e w4 ⟨rfl,hb4⟩
       have B4:=LH (B1.out.trans (hb4.mono (by omega)))
       have R4:=LH (R1.out.below hb4 R1.out.lt)
       have hc4:=fun k=>R4.out.cell k
       have hf4:=fun k=>R4.out.frozen k
       have hl4:=R4.out.lt
       clear hc1 hf1 hl1 B1 R1 hb4
       have B1:=B4
       have R1:=R4
       have hc1:=hc4
       clear B4 R4 hc4
       go_wp2_with fail
       obtain⟨w5,e5,R5,hz5,K5⟩:=stored4 R1.out (.int .i64 3) (.string ⟨#[]⟩) (.int .i64 (numI tx).1) (.int .i64 i)
       rw [<- e5]
       have hc5:=fun k=>R5.out.cell k
       have B5:=LH (B1.out.trans (K5.out.below (B:=w.heap.size) (by omega) (Nat.le_refl _)))
       clear e5 hc1
       show BP _ _
       rw [HBP.out]
       refine bodyPost_ret (v:=.tuple #[.agg #[.int .i64 3,.string ⟨#[]⟩,.int .i64 (numI tx).1,.int .i64 i],.int .i64 q,.bool (numI tx).2]) (by simp [results,Tryz.results61,go_sem,hc5]) rfl ?_
       exact⟨by rw [HEQ.out];rfl,B5.out⟩
      · have HZ:=LH (HST.out hdq)
        go_wp2_with fail
        go_round
        case rel=>exact⟨q+1,by go_num,by omega,by omega,LH (by rw [HN.out,HZ.out];omega)⟩
        case measure=>simp [intOf];omega
     ·
      have dl:decide ((q:Int)<(s.size:Int))=false:=decide_eq_false (by omega)
      have HZ:=LH (spanN_end (p:=digitB) s q (by omega))
      have HEQ:=LH (oneV_digits s i q hi hiq HNL.out hdg (by rw [HN.out,HZ.out];omega))
      clear hn0
      have hsl:(i:Int)<=(q:Int):=by omega
      have hsq:(q:Int)<=(s.size:Int):=by omega
      have hxs:(s.extract i q).size<=9223372036854775807:=by simp [ByteArray.size_extract];omega
      obtain⟨tx,htx⟩:∃ x,s.extract i q=x:=⟨_,rfl⟩
      rw [htx] at hxs HEQ
      have hnw:=LH (specNumber tx w1 hxs)
      go_wp2_with fail
      clear htx
      refine hnw.out.mono ?_
      rintro e w4 ⟨rfl,hb4⟩
      have B4:=LH (B1.out.trans (hb4.mono (by omega)))
      have R4:=LH (R1.out.below hb4 R1.out.lt)
      have hc4:=fun k=>R4.out.cell k
      have hf4:=fun k=>R4.out.frozen k
      have hl4:=R4.out.lt
      clear hc1 hf1 hl1 B1 R1 hb4
      have B1:=B4
      have R1:=R4
      have hc1:=hc4
      clear B4 R4 hc4
      go_wp2_with fail
      obtain⟨w5,e5,R5,hz5,K5⟩:=stored4 R1.out (.int .i64 3) (.string ⟨#[]⟩) (.int .i64 (numI tx).1) (.int .i64 i)
      rw [<- e5]
      have hc5:=fun k=>R5.out.cell k
      have B5:=LH (B1.out.trans (K5.out.below (B:=w.heap.size) (by omega) (Nat.le_refl _)))
      clear e5 hc1
      show BP _ _
      rw [HBP.out]
      refine bodyPost_ret (v:=.tuple #[.agg #[.int .i64 3,.string ⟨#[]⟩,.int .i64 (numI tx).1,.int .i64 i],.int .i64 q,.bool (numI tx).2]) (by simp [results,Tryz.results61,go_sem,hc5]) rfl ?_
      exact⟨by rw [HEQ.out];rfl,B5.out⟩
  ·
   have HLET:=LH (show letB s[i]=true by rw [HL.out,hlg];simp)
   go_wp2_with fail
   go_loop [7] (fun v=>∃ q:Nat,v= .int .i64 q/\i<=q/\q<=s.size/\Hid (spanN letB (s.data.toList.drop i)=(q - i)+spanN letB (s.data.toList.drop q))) (fun v=>s.size - (intOf v).toNat)
   case atStart=>exact⟨i,by go_num,Nat.le_refl _,by omega,LH (by omega)⟩
   case round=>
    obtain⟨q,rfl,hiq,hqs,HN⟩:=hrel
    have hn0:=True.intro
    by_cases hlt:q<s.size
    ·
     have dl:decide ((q:Int)<(s.size:Int))=true:=decide_eq_true (by omega)
     have hlt2:(q:Int)<(s.size:Int):=by omega
     have hw1:IntKind.i64.wrap ((q:Int)+1)=(q:Int)+1:=(IntWalk.i64_left _).trans (IntWalk.wrap64_in ((q:Int)+1) (by omega))
     have HLQ:=LH (letB_eq s[q])
     have HST:=LH (spanN_step (p:=letB) s q hlt)
     have HSP:=LH (spanN_stop (p:=letB) s q hlt)
     go_wp2_with fail
     refine(specSmall s[q] _).mono ?_
     rintro e w2 ⟨rfl,rfl⟩
     cases hsq0:smB s[q]
     ·
      go_wp2_with fail
      refine(specLarge s[q] _).mono ?_
      rintro e w2 ⟨rfl,rfl⟩
      cases hlq:lgB s[q]
      ·
       have HZ:=LH (HSP.out (by rw [HLQ.out,hsq0,hlq];rfl))
       have HQ:=LH (oneV_letters s i q hi hiq HLET.out (by rw [HN.out,HZ.out];omega))
       clear hn0
       have hsl:(i:Int)<=(q:Int):=by omega
       have hsq:(q:Int)<=(s.size:Int):=by omega
       have hwk:IntKind.i64.wrap ((q:Int) - (i:Int))=(q:Int) - (i:Int):=(IntWalk.i64_left _).trans (IntWalk.wrap64_in ((q:Int) - (i:Int)) (by omega))
       go_wp2_with fail
       refine(specLarge s[i] _).mono ?_
       rintro e w2 ⟨rfl,rfl⟩
       cases hl:lgB s[i]
       · have HEQ:=LH (HQ.out 1 (by rw [<- HLG.out,hl];rfl))
         go_wp2_with fail
         obtain⟨w5,e5,R5,hz5,K5⟩:=stored4 R1.out (.int .i64 1) (.string (s.extract i q)) (.int .i64 0) (.int .i64 i)
         rw [<- e5]
         have hc5:=fun k=>R5.out.cell k
         have B5:=LH (B1.out.trans (K5.out.below (B:=w.heap.size) (by omega) (Nat.le_refl _)))
         clear e5 hc1
         show BP _ _
         rw [HBP.out]
         refine bodyPost_ret (v:=.tuple #[.agg #[.int .i64 1,.string (s.extract i q),.int .i64 0,.int .i64 i],.int .i64 q,.bool (decide ((q:Int) - (i:Int)<=8))]) (by simp [results,Tryz.results61,go_sem,hc5]) rfl ?_
         exact⟨by rw [HEQ.out];rfl,B5.out⟩
       · have HEQ:=LH (HQ.out 2 (by rw [<- HLG.out,hl];rfl))
         go_wp2_with fail
         obtain⟨w5,e5,R5,hz5,K5⟩:=stored4 R1.out (.int .i64 2) (.string (s.extract i q)) (.int .i64 0) (.int .i64 i)
         rw [<- e5]
         have hc5:=fun k=>R5.out.cell k
         have B5:=LH (B1.out.trans (K5.out.below (B:=w.heap.size) (by omega) (Nat.le_refl _)))
         clear e5 hc1
         show BP _ _
         rw [HBP.out]
         refine bodyPost_ret (v:=.tuple #[.agg #[.int .i64 2,.string (s.extract i q),.int .i64 0,.int .i64 i],.int .i64 q,.bool (decide ((q:Int) - (i:Int)<=8))]) (by simp [results,Tryz.results61,go_sem,hc5]) rfl ?_
         exact⟨by rw [HEQ.out];rfl,B5.out⟩
      · have HZ:=LH (HST.out (by rw [HLQ.out,hsq0,hlq];rfl))
        go_wp2_with fail
        go_round
        case rel=>exact⟨q+1,by go_num,by omega,by omega,LH (by rw [HN.out,HZ.out];omega)⟩
        case measure=>simp [intOf];omega
     · have HZ:=LH (HST.out (by rw [HLQ.out,hsq0];rfl))
       go_wp2_with fail
       go_round
       case rel=>exact⟨q+1,by go_num,by omega,by omega,LH (by rw [HN.out,HZ.out];omega)⟩
       case measure=>simp [intOf];omega
    ·
     have dl:decide ((q:Int)<(s.size:Int))=false:=decide_eq_false (by omega)
     have HZ:=LH (spanN_end (p:=letB) s q (by omega))
     have HQ:=LH (oneV_letters s i q hi hiq HLET.out (by rw [HN.out,HZ.out];omega))
     clear hn0
     have hsl:(i:Int)<=(q:Int):=by omega
     have hsq:(q:Int)<=(s.size:Int):=by omega
     have hwk:IntKind.i64.wrap ((q:Int) - (i:Int))=(q:Int) - (i:Int):=(IntWalk.i64_left _).trans (IntWalk.wrap64_in ((q:Int) - (i:Int)) (by omega))
     go_wp2_with fail
     refine(specLarge s[i] _).mono ?_
     rintro e w2 ⟨rfl,rfl⟩
     cases hl:lgB s[i]
     ·
      have HEQ:=LH (HQ.out 1 (by rw [<- HLG.out,hl];rfl))
      go_wp2_with fail
      obtain⟨w5,e5,R5,hz5,K5⟩:=stored4 R1.out (.int .i64 1) (.string (s.extract i q)) (.int .i64 0) (.int .i64 i)
      rw [<- e5]
      have hc5:=fun k=>R5.out.cell k
      have B5:=LH (B1.out.trans (K5.out.below (B:=w.heap.size) (by omega) (Nat.le_refl _)))
      clear e5 hc1
      show BP _ _
      rw [HBP.out]
      refine bodyPost_ret (v:=.tuple #[.agg #[.int .i64 1,.string (s.extract i q),.int .i64 0,.int .i64 i],.int .i64 q,.bool (decide ((q:Int) - (i:Int)<=8))]) (by simp [results,Tryz.results61,go_sem,hc5]) rfl ?_
      exact⟨by rw [HEQ.out];rfl,B5.out⟩
     ·
      have HEQ:=LH (HQ.out 2 (by rw [<- HLG.out,hl];rfl))
      go_wp2_with fail
      obtain⟨w5,e5,R5,hz5,K5⟩:=stored4 R1.out (.int .i64 2) (.string (s.extract i q)) (.int .i64 0) (.int .i64 i)
      rw [<- e5]
      have hc5:=fun k=>R5.out.cell k
      have B5:=LH (B1.out.trans (K5.out.below (B:=w.heap.size) (by omega) (Nat.le_refl _)))
      clear e5 hc1
      show BP _ _
      rw [HBP.out]
      refine bodyPost_ret (v:=.tuple #[.agg #[.int .i64 2,.string (s.extract i q),.int .i64 0,.int .i64 i],.int .i64 q,.bool (decide ((q:Int) - (i:Int)<=8))]) (by simp [results,Tryz.results61,go_sem,hc5]) rfl ?_
      exact⟨by rw [HEQ.out];rfl,B5.out⟩
 ·
  have HLET:=LH (show letB s[i]=true by rw [HL.out,hsm];simp)
  go_wp2_with fail
  go_loop [7] (fun v=>∃ q:Nat,v= .int .i64 q/\i<=q/\q<=s.size/\Hid (spanN letB (s.data.toList.drop i)=(q - i)+spanN letB (s.data.toList.drop q))) (fun v=>s.size - (intOf v).toNat)
  case atStart=>exact⟨i,by go_num,Nat.le_refl _,by omega,LH (by omega)⟩
  case round=>
   obtain⟨q,rfl,hiq,hqs,HN⟩:=hrel
   have hn0:=True.intro
   by_cases hlt:q<s.size
   ·
    have dl:decide ((q:Int)<(s.size:Int))=true:=decide_eq_true (by omega)
    have hlt2:(q:Int)<(s.size:Int):=by omega
    have hw1:IntKind.i64.wrap ((q:Int)+1)=(q:Int)+1:=(IntWalk.i64_left _).trans (IntWalk.wrap64_in ((q:Int)+1) (by omega))
    have HLQ:=LH (letB_eq s[q])
    have HST:=LH (spanN_step (p:=letB) s q hlt)
    have HSP:=LH (spanN_stop (p:=letB) s q hlt)
    go_wp2_with fail
    refine(specSmall s[q] _).mono ?_
    rintro e w2 ⟨rfl,rfl⟩
    cases hsq0:smB s[q]
    ·
     go_wp2_with fail
     refine(specLarge s[q] _).mono ?_
     rintro e w2 ⟨rfl,rfl⟩
     cases hlq:lgB s[q]
     ·
      have HZ:=LH (HSP.out (by rw [HLQ.out,hsq0,hlq];rfl))
      have HQ:=LH (oneV_letters s i q hi hiq HLET.out (by rw [HN.out,HZ.out];omega))
      clear hn0
      have hsl:(i:Int)<=(q:Int):=by omega
      have hsq:(q:Int)<=(s.size:Int):=by omega
      have hwk:IntKind.i64.wrap ((q:Int) - (i:Int))=(q:Int) - (i:Int):=(IntWalk.i64_left _).trans (IntWalk.wrap64_in ((q:Int) - (i:Int)) (by omega))
      go_wp2_with fail
      refine(specLarge s[i] _).mono ?_
      rintro e w2 ⟨rfl,rfl⟩
      cases hl:lgB s[i]
      ·
       have HEQ:=LH (HQ.out 1 (by rw [<- HLG.out,hl];rfl))
       go_wp2_with fail
       obtain⟨w5,e5,R5,hz5,K5⟩:=stored4 R1.out (.int .i64 1) (.string (s.extract i q)) (.int .i64 0) (.int .i64 i)
       rw [<- e5]
       have hc5:=fun k=>R5.out.cell k
       have B5:=LH (B1.out.trans (K5.out.below (B:=w.heap.size) (by omega) (Nat.le_refl _)))
       clear e5 hc1
       show BP _ _
       rw [HBP.out]
       refine bodyPost_ret (v:=.tuple #[.agg #[.int .i64 1,.string (s.extract i q),.int .i64 0,.int .i64 i],.int .i64 q,.bool (decide ((q:Int) - (i:Int)<=8))]) (by simp [results,Tryz.results61,go_sem,hc5]) rfl ?_
       exact⟨by rw [HEQ.out];rfl,B5.out⟩
      ·
       have HEQ:=LH (HQ.out 2 (by rw [<- HLG.out,hl];rfl))
       go_wp2_with fail
       obtain⟨w5,e5,R5,hz5,K5⟩:=stored4 R1.out (.int .i64 2) (.string (s.extract i q)) (.int .i64 0) (.int .i64 i)
       rw [<- e5]
       have hc5:=fun k=>R5.out.cell k
       have B5:=LH (B1.out.trans (K5.out.below (B:=w.heap.size) (by omega) (Nat.le_refl _)))
       clear e5 hc1
       show BP _ _
       rw [HBP.out]
       refine bodyPost_ret (v:=.tuple #[.agg #[.int .i64 2,.string (s.extract i q),.int .i64 0,.int .i64 i],.int .i64 q,.bool (decide ((q:Int) - (i:Int)<=8))]) (by simp [results,Tryz.results61,go_sem,hc5]) rfl ?_
       exact⟨by rw [HEQ.out];rfl,B5.out⟩
     · have HZ:=LH (HST.out (by rw [HLQ.out,hsq0,hlq];rfl))
       go_wp2_with fail
       go_round
       case rel=>exact⟨q+1,by go_num,by omega,by omega,LH (by rw [HN.out,HZ.out];omega)⟩
       case measure=>simp [intOf];omega
    · have HZ:=LH (HST.out (by rw [HLQ.out,hsq0];rfl))
      go_wp2_with fail
      go_round
      case rel=>exact⟨q+1,by go_num,by omega,by omega,LH (by rw [HN.out,HZ.out];omega)⟩
      case measure=>simp [intOf];omega
   ·
    have dl:decide ((q:Int)<(s.size:Int))=false:=decide_eq_false (by omega)
    have HZ:=LH (spanN_end (p:=letB) s q (by omega))
    have HQ:=LH (oneV_letters s i q hi hiq HLET.out (by rw [HN.out,HZ.out];omega))
    clear hn0
    have hsl:(i:Int)<=(q:Int):=by omega
    have hsq:(q:Int)<=(s.size:Int):=by omega
    have hwk:IntKind.i64.wrap ((q:Int) - (i:Int))=(q:Int) - (i:Int):=(IntWalk.i64_left _).trans (IntWalk.wrap64_in ((q:Int) - (i:Int)) (by omega))
    go_wp2_with fail
    refine(specLarge s[i] _).mono ?_
    rintro e w2 ⟨rfl,rfl⟩
    cases hl:lgB s[i]
    ·
     have HEQ:=LH (HQ.out 1 (by rw [<- HLG.out,hl];rfl))
     go_wp2_with fail
     obtain⟨w5,e5,R5,hz5,K5⟩:=stored4 R1.out (.int .i64 1) (.string (s.extract i q)) (.int .i64 0) (.int .i64 i)
     rw [<- e5]
     have hc5:=fun k=>R5.out.cell k
     have B5:=LH (B1.out.trans (K5.out.below (B:=w.heap.size) (by omega) (Nat.le_refl _)))
     clear e5 hc1
     show BP _ _
     rw [HBP.out]
     refine bodyPost_ret (v:=.tuple #[.agg #[.int .i64 1,.string (s.extract i q),.int .i64 0,.int .i64 i],.int .i64 q,.bool (decide ((q:Int) - (i:Int)<=8))]) (by simp [results,Tryz.results61,go_sem,hc5]) rfl ?_
     exact⟨by rw [HEQ.out];rfl,B5.out⟩
    ·
     have HEQ:=LH (HQ.out 2 (by rw [<- HLG.out,hl];rfl))
     go_wp2_with fail
     obtain⟨w5,e5,R5,hz5,K5⟩:=stored4 R1.out (.int .i64 2) (.string (s.extract i q)) (.int .i64 0) (.int .i64 i)
     rw [<- e5]
     have hc5:=fun k=>R5.out.cell k
     have B5:=LH (B1.out.trans (K5.out.below (B:=w.heap.size) (by omega) (Nat.le_refl _)))
     clear e5 hc1
     show BP _ _
     rw [HBP.out]
     refine bodyPost_ret (v:=.tuple #[.agg #[.int .i64 2,.string (s.extract i q),.int .i64 0,.int .i64 i],.int .i64 q,.bool (decide ((q:Int) - (i:Int)<=8))]) (by simp [results,Tryz.results61,go_sem,hc5]) rfl ?_
     exact⟨by rw [HEQ.out];rfl,B5.out⟩
theorem spanN_pos {p:UInt8->Bool} {b:UInt8} {r:List UInt8} (h:p b=true):0<spanN p (b::r):=by simp [spanN,h]
theorem spanN_le {p:UInt8->Bool}:∀ l:List UInt8,spanN p l<=l.length
 | []=>by simp [spanN]
 | b::r=>by
  have:=spanN_le (p:=p) r
  unfold spanN
  split<;>simp<;>omega
theorem pSignAt_le (b:UInt8) (r:List UInt8):(pSignAt (b::r)).length<=(b::r).length:=by
 unfold pSignAt
 split
 · rename_i h;simp at h;obtain⟨-,rfl⟩:=h;simp
 · rename_i h;simp at h;obtain⟨-,rfl⟩:=h;simp
 · split<;>simp
 · simp
theorem numI_range (s:ByteArray):0<=(numI s).1/\(numI s).1<=9223372036854775807:=by
 unfold numI
 split
 ·
  rename_i h
  unfold numOk at h
  simp only [Bool.and_eq_true,decide_eq_true_eq] at h
  refine⟨by simp,?_⟩
  simp only
  omega
 · simp
theorem int_wfR {n:Int} (h: -9223372036854775808<=n/\n<=9223372036854775807):(Lit.int .i64 n).wf=true:=by
 simp [Lit.wf,IntKind.min,IntKind.max,IntKind.signed,IntKind.bits];omega
structure OneFacts (s:ByteArray) (i:Nat) (V:GToken × Nat × Bool):Prop where
 gt:i<V.2.1
 le:V.2.1<=s.size
 kind:(Lit.int .i64 V.1.kind).wf=true
 text:V.1.text.size<=maxLen
 n:(Lit.int .i64 V.1.n).wf=true
 pos:(Lit.int .i64 V.1.pos).wf=true
theorem oneV_facts (s:ByteArray) (i:Nat) (hi:i<s.size) (hs:s.size<=3000) (hok:(oneV (s.data.toList.drop i) i).2.2=true):OneFacts s i (oneV (s.data.toList.drop i) i):=by
 have hlen:(s.data.toList.drop i).length=s.size - i:=by rw [List.length_drop,ba_len]
 have hm:∀ n,(s.data.toList.drop i).length<=n->n<=maxLen->True:=fun _ _ _=>trivial
 have hpos:(Lit.int .i64 (i:Int)).wf=true:=int_wfR (by omega)
 have hsz:∀ (n:Nat),(⟨((s.data.toList.drop i).take n).toArray⟩:ByteArray).size<=maxLen:=fun n=>by
  rw [<- ba_len]
  simp only [List.length_take,hlen]
  unfold maxLen
  omega
 rw [drop_cons_at s i hi] at hok hlen hsz ⊢
 unfold oneV at hok ⊢
 by_cases h1:(smallB s[i]||largeB s[i])=true
 · simp only [h1,if_true] at hok ⊢
   have h2:=spanN_pos (p:=fun c=>smallB c||largeB c) (r:=s.data.toList.drop (i+1)) h1
   have h3:=spanN_le (p:=fun c=>smallB c||largeB c) (s[i]::s.data.toList.drop (i+1))
   exact⟨by dsimp only;omega,by dsimp only;omega,by dsimp only;split<;>decide,hsz _,(show(Lit.int .i64 0).wf=true by decide),hpos⟩
 ·
  simp only [h1,if_false,Bool.false_eq_true] at hok ⊢
  by_cases h2:digitB s[i]=true
  · simp only [h2,if_true] at hok ⊢
    have h3:=spanN_pos (p:=digitB) (r:=s.data.toList.drop (i+1)) h2
    have h4:=spanN_le (p:=digitB) (s[i]::s.data.toList.drop (i+1))
    have h5:=numI_range ⟨((s[i]::s.data.toList.drop (i+1)).take (spanN digitB (s[i]::s.data.toList.drop (i+1)))).toArray⟩
    exact⟨by dsimp only;omega,by dsimp only;omega,(show(Lit.int .i64 3).wf=true by decide),empty_le,int_wfR (by dsimp only;omega),hpos⟩
  ·
   simp only [h2,if_false,Bool.false_eq_true] at hok ⊢
   have h3:=pSignAt_le s[i] (s.data.toList.drop (i+1))
   have h4:0<(pSignAt (s[i]::s.data.toList.drop (i+1))).length:=by
    cases hp:pSignAt (s[i]::s.data.toList.drop (i+1)) with
    | nil=>rw [hp] at hok;simp at hok
    | cons a b=>simp
   refine⟨by dsimp only;omega,by dsimp only;omega,(show(Lit.int .i64 4).wf=true by decide),?_,(show(Lit.int .i64 0).wf=true by decide),hpos⟩
   rw [<- ba_len]
   dsimp only
   unfold maxLen
   omega
theorem tokN_blank (k:Nat) (b:UInt8) (r:List UInt8) (at0:Nat) (acc:List GToken) (hb:(b ==32||b ==10)=true):tokN (k+1) (b::r) at0 acc=tokN k r (at0+1) acc:=by
 simp only [tokN,hb,if_true]
theorem tokN_go {k:Nat} {s:ByteArray} {i:Nat} {acc ts:List GToken} (hi:i<s.size) (hb:(s[i] ==32||s[i] ==10)=false) (h:tokN k (s.data.toList.drop i) i acc=some ts):
 (oneV (s.data.toList.drop i) i).2.2=true/\∃ j,k=j+1/\(i<=(oneV (s.data.toList.drop i) i).2.1->tokN j (s.data.toList.drop (oneV (s.data.toList.drop i) i).2.1) (oneV (s.data.toList.drop i) i).2.1 (acc++[(oneV (s.data.toList.drop i) i).1])=some ts):=by
 cases k with
 | zero=>simp [tokN] at h
 | succ j=>
  have hd:=drop_cons_at s i hi
  have h0:=h
  rw [hd,tokN_one _ _ _ _ _ hb,<- hd] at h0
  split at h0
  · rename_i hok
    refine⟨hok,j,rfl,fun hle=>?_⟩
    rw [List.drop_drop,show i+((oneV (s.data.toList.drop i) i).2.1 - i)=(oneV (s.data.toList.drop i) i).2.1 by omega] at h0
    exact h0
  · cases h0
theorem tokN_skip {k:Nat} {s:ByteArray} {i:Nat} {acc ts:List GToken} (hi:i<s.size) (hb:(s[i] ==32||s[i] ==10)=true) (h:tokN k (s.data.toList.drop i) i acc=some ts):∃ j,tokN j (s.data.toList.drop (i+1)) (i+1) acc=some ts:=by
 cases k with
 | zero=>simp [tokN] at h
 | succ j=>
  rw [drop_cons_at s i hi,tokN_blank _ _ _ _ _ hb] at h
  exact⟨j,h⟩
theorem tokN_end {k:Nat} {s:ByteArray} {i:Nat} {acc ts:List GToken} (hi:s.size<=i) (h:tokN k (s.data.toList.drop i) i acc=some ts):ts=acc++[⟨0,⟨#[]⟩,0,i⟩]:=by
 rw [List.drop_eq_nil_of_le (by rw [ba_len];exact hi)] at h
 cases k with
 | zero=>simp [tokN] at h
 | succ j=>simp [tokN] at h;exact h.symm
def zTok:Value:=.agg #[.int .i64 0,.string ⟨#[]⟩,.int .i64 0,.int .i64 0]
def ToToks (ts:List GToken) (w:World) (e:Ending) (w':World):Prop:=∃ A c,e= .returned (.tuple #[.slice A ts.length c,.int .i64 (-1)])/\Sl w' (fun b=>w.heap.size<=b/\b<w'.heap.size) 4 A c (ts.map GToken.toD)/\Below w.heap.size w w'
theorem u8_const (a:UInt8) (n:Nat) (h:n<256):(((a.toNat:Nat):Int) ==(n:Int))=(a ==UInt8.ofNat n):=by
 rw [<- u8_beq,UInt8.toNat_ofNat_of_lt' (by simpa using h)]
theorem l2Tokens (k:Nat) (s:ByteArray) (w:World) (hs:s.size<=3000) (ts:List GToken) (h:tokN k s.data.toList 0 []=some ts):
 Calls Tryz.prog 53 #[.string s] w (ToToks ts w):=by
 have H0:=LH h
 have hd:decide (3000<(s.size:Int))=false:=decide_eq_false (by omega)
 clear h
 obtain⟨w0,e0⟩:∃ w0,w0=w.alloc (.cells #[] 95):=⟨_,rfl⟩
 have hz0:w0.heap.size=w.heap.size+1:=by rw [e0];simp
 have E0:=LH (show Below w.heap.size w w0 by rw [e0];exact(Below.refl _ _).alloc (Nat.le_refl _) _)
 have G0:=LH (show Grx (fun b=>w.heap.size<=b) w0 w.heap.size 95 4 (.slice (some ⟨w.heap.size,0,none⟩) 0 0) 0 [] from Grx.made (by rw [e0];exact Row.new _ _ _) (Nat.le_refl _))
 go_enter Tryz.func53,Tryz.ntmps53
 refine wp_hide (fun BP hBP=>?_)
 have HBP:=LH hBP
 clear hBP
 go_wp2_with fail
 rw [<- e0]
 clear e0
 go_loopw [4,5] (fun v i wr=>∃ (j f:Nat) (acc:List GToken) (A:Option Addr) (c:Nat),i= .int .i64 j/\v= .slice A acc.length c/\j<=s.size/\acc.length<=j/\Hid (tokN f (s.data.toList.drop j) j acc=some ts)/\Hid (Grx (fun b=>w.heap.size<=b) wr w.heap.size 95 4 (.slice A acc.length c) acc.length (acc.map GToken.toD))/\Hid (Below w.heap.size w wr)) (fun _ i _=>s.size - (intOf i).toNat)
 case atStart=>exact⟨0,k,[],_,_,by go_num,rfl,by omega,by simp,H0,G0,E0⟩
 case round=>
  clear G0 E0 H0 hz0
  obtain⟨j,f,acc,A,c,rfl,rfl,hj,hal,HF,HG,HB⟩:=hrel
  have hzr:=HB.out.size
  have hj2:(j:Int)<=3000:=by omega
  have hw1:IntKind.i64.wrap ((j:Int)+1)=(j:Int)+1:=(IntWalk.i64_left _).trans (IntWalk.wrap64_in ((j:Int)+1) (by omega))
  by_cases hlt:j<s.size
  ·
   have dl:decide ((j:Int)<(s.size:Int))=true:=decide_eq_true (by omega)
   have hlt2:(j:Int)<(s.size:Int):=by omega
   have U32:=LH (u8_const s[j] 32 (by omega))
   have U10:=LH (u8_const s[j] 10 (by omega))
   cases h32:(((s[j].toNat:Nat):Int) ==32)
   ·
    cases h10:(((s[j].toNat:Nat):Int) ==10)
    ·
     have hbk:(s[j] ==32||s[j] ==10)=false:=by
      have a1:=U32.out;have a2:=U10.out
      rw [show(s[j] ==32)=false from a1.symm.trans h32,show(s[j] ==10)=false from a2.symm.trans h10];rfl
     obtain⟨hok,f',-,hnx⟩:=tokN_go hlt hbk HF.out
     have hfa:=oneV_facts s j hlt hs hok
     have HO:=LH (l2One s j wr hlt hs)
     unfold TokOneR at HO
     obtain⟨⟨t,to,ok⟩,hV⟩:∃ V,oneV (s.data.toList.drop j) j=V:=⟨_,rfl⟩
     rw [hV] at hok hnx hfa HO
     have hto:=hfa.gt
     have hto2:=hfa.le
     have HT:=LH hfa
     dsimp only at hok hto hto2
     subst hok
     have HNX:=LH (hnx (Nat.le_of_lt hto))
     clear hnx hfa hV hbk HF U32 U10
     unfold tokA at HO
     dsimp only at HO
     have hto3:(to:Int)<=3000:=by omega
     have HOW:=LH (fun q (hq:(Value.slice A acc.length c).ownBlock=some q)=>HG.out.own q hq)
     go_wp2_with fail
     refine HO.out.mono ?_
     rintro e w1 ⟨rfl,hb1⟩
     have hz1:=hb1.size
     have E1:=LH hb1
     clear hb1 HO
     obtain⟨w2,e2,R2,hz2,K2⟩:=boxed w1 95 #[.int .i64 t.kind,.string t.text,.int .i64 t.n,.int .i64 t.pos]
     obtain⟨w3,e3,R3,hz3,K3⟩:=boxed w2 95 #[.int .i64 t.kind,.string t.text,.int .i64 t.n,.int .i64 t.pos]
     rw [hz2] at R3
     have E3:=LH (show Below wr.heap.size wr w3 by rw [e3,e2];exact(E1.out.alloc (by omega) _).alloc (by simp;omega) _)
     have B3:=LH (HB.out.trans (E3.out.mono (by omega)))
     have G3:=LH (HG.out.below E3.out)
     have T3:=LH (show Sl w3 (fun b=>b<w3.heap.size/\(Value.slice A acc.length c).ownBlock≠some b/\w.heap.size<=b) 4 (some ⟨w1.heap.size+1,0,none⟩) 1 ([t].map GToken.toD) from
       Sl.ofRow R3.out (rdC_one1 (GToken.rd_mk (w:=w3) (t:=t) ⟨HT.out.kind,HT.out.text,HT.out.n,HT.out.pos⟩) rfl) ⟨by omega,fun e=>by have:=(HOW.out _ e).2;omega,by omega⟩ (by simp) (by unfold maxLen;omega))
     go_wp2_with (first | (at_builtin;rw [<- e2,<- e3];refine wpList_append_X w3 rfl (.tmp 41) (.tmp 43) 85 rfl 95 zTok 4 40 Tryz.underlying85 (by kernel_rfl) rfl (by omega) w.heap.size (.slice A acc.length c) acc.length _ G3.out (some ⟨w1.heap.size+1,0,none⟩) 1 1 _ rfl T3.out (by omega) (by unfold maxLen;omega) (by omega) rfl rfl ?_;intro A4 c4 w4 G4 hGr4;have G4h:=LH G4;have B4:=LH (B3.out.trans (hGr4.below (B:=w.heap.size) (by omega) (fun q hq=>(HOW.out q hq).1)));clear G4 hGr4))
     obtain⟨acc2,hac⟩:∃ x,x=acc++[t]:=⟨_,rfl⟩
     have hl2:acc2.length=acc.length+1:=by rw [hac];simp
     go_roundw
     case rel=>exact⟨to,f',acc2,A4,c4,rfl,by rw [hl2],by omega,by omega,LH (by rw [hac];exact HNX.out),LH (by rw [hl2,hac];simpa using G4h.out),B4⟩
     case measure=>simp [intOf];omega
    ·
     have hbk:(s[j] ==32||s[j] ==10)=true:=by
      have a2:=U10.out
      rw [show(s[j] ==10)=true from a2.symm.trans h10];simp
     obtain⟨f',hnx⟩:=tokN_skip hlt hbk HF.out
     have HNX:=LH hnx
     clear hnx hbk U32 U10
     go_wp2_with fail
     go_roundw
     case rel=>exact⟨j+1,f',acc,A,c,by go_num,rfl,by omega,by omega,HNX,HG,HB⟩
     case measure=>simp [intOf];omega
   ·
    have hbk:(s[j] ==32||s[j] ==10)=true:=by
     have a2:=U32.out
     rw [show(s[j] ==32)=true from a2.symm.trans h32];simp
    obtain⟨f',hnx⟩:=tokN_skip hlt hbk HF.out
    have HNX:=LH hnx
    clear hnx hbk U32 U10
    go_wp2_with fail
    go_roundw
    case rel=>exact⟨j+1,f',acc,A,c,by go_num,rfl,by omega,by omega,HNX,HG,HB⟩
    case measure=>simp [intOf];omega
  ·
   have dl:decide ((j:Int)<(s.size:Int))=false:=decide_eq_false (by omega)
   have hje:j=s.size:=by omega
   have HTS:=LH (show ts=acc++[⟨0,⟨#[]⟩,0,s.size⟩] by rw [<- hje];exact tokN_end (by omega) HF.out)
   clear hje
   have HOW:=LH (fun q (hq:(Value.slice A acc.length c).ownBlock=some q)=>HG.out.own q hq)
   obtain⟨w3,e3,R3,hz3,K3⟩:=boxed wr 95 #[.int .i64 0,.string ⟨#[]⟩,.int .i64 0,.int .i64 s.size]
   have E3:=LH (show Below wr.heap.size wr w3 by rw [e3];exact(Below.refl _ _).alloc (Nat.le_refl _) _)
   have B3:=LH (HB.out.trans (E3.out.mono (by omega)))
   have G3:=LH (HG.out.below E3.out)
   have T3:=LH (show Sl w3 (fun b=>b<w3.heap.size/\(Value.slice A acc.length c).ownBlock≠some b/\w.heap.size<=b) 4 (some ⟨wr.heap.size,0,none⟩) 1 ([(⟨0,⟨#[]⟩,0,s.size⟩:GToken)].map GToken.toD) from
     Sl.ofRow R3.out (rdC_one1 (GToken.rd_mk (w:=w3) (t:=⟨0,⟨#[]⟩,0,s.size⟩) ⟨(show(Lit.int .i64 0).wf=true by decide),empty_le,(show(Lit.int .i64 0).wf=true by decide),int_wfR (by dsimp only;omega)⟩) rfl) ⟨by omega,fun e=>by have:=(HOW.out _ e).2;omega,by omega⟩ (by simp) (by unfold maxLen;omega))
   go_wp2_with (first | (at_builtin;rw [<- e3];refine wpList_append_X w3 rfl (.tmp 46) (.tmp 50) 85 rfl 95 zTok 4 40 Tryz.underlying85 (by kernel_rfl) rfl (by omega) w.heap.size (.slice A acc.length c) acc.length _ G3.out (some ⟨wr.heap.size,0,none⟩) 1 1 _ rfl T3.out (by omega) (by unfold maxLen;omega) (by omega) rfl rfl ?_;intro A4 c4 w4 G4 hGr4;have G4h:=LH G4;have B4:=LH (B3.out.trans (hGr4.below (B:=w.heap.size) (by omega) (fun q hq=>(HOW.out q hq).1)));clear G4 hGr4))
   show BP _ _
   rw [HBP.out]
   go_ret2
   have hl2:ts.length=acc.length+1:=by rw [HTS.out];simp
   refine⟨A4,c4,by rw [hl2];rfl,?_,B4.out⟩
   have hsl:=sl_of_grx G4h.out (fun b h=>h)
   rw [HTS.out,List.map_append]
   exact hsl.keep fun b hb=>⟨⟨hb.2,hb.1⟩,rfl⟩
end Go.Proofs.YtgbjdhfaklmjcaaGreat
