/- Texts of the claim LTags in one: Up TidyS PbB PbC. Conditions: none but bounds on sizes. -/
import Derived.Test.YtgbjdhfaklmjcaaGreatZLTags0
import Derived.BigQuiet
import Derived.Test.YtgbjdhfaklmjcaaGreatZLTags14
import Derived.Test.YtgbjdhfaklmjcaaGreatZLTags15
import Derived.Test.YtgbjdhfaklmjcaaGreatZLTags12
import Derived.Test.YtgbjdhfaklmjcaaGreatZLTags1
import Derived.Deep.RegionHeld3
import Derived.Deep.DeepMust
import Derived.Test.YtgbjdhfaklmjcaaGreatZLTags5
import Derived.Test.YtgbjdhfaklmjcaaGreatZLTags8
import Derived.Deep.CutRange
namespace Go.Proofs.YtgbjdhfaklmjcaaGreat
set_option maxRecDepth 20000
set_option linter.unusedVariables false
set_option linter.unusedSimpArgs false
open Go.RowKit
structure Up (W:World) where
 v:World
 h:Below W.heap.size W v
instance upNonempty (W:World):Nonempty (Up W):=⟨⟨W,Below.refl _ _⟩⟩
theorem wp_region_up {P:Program} {id:Nat} {Q:Exit->Act->World->Prop} {a:Act} {w:World} {l:List Oper} (W:World) (hW:Below W.heap.size W w) (hm:P.follows .mixedOrders=true) (hB:Region.lexB .any l.toArray=true)
 (h:wpQuiet P l.toArray (fun w'=>∃ x:Up W,w'=x.v) (fun a'=>∀ w',(∃ x:Up W,w'=x.v)->Q .normal a' w') l a):(Code.region id l.toArray true).wp P Q a w:=
 wp_region_quiet (C:=fun w'=>∃ x:Up W,w'=x.v) hm hB ⟨⟨_,hW.drew⟩,rfl⟩ h
theorem upCall {P:Program} {f:FuncId} {args:Array Value} {W:World} {x:Up W} {v:Value}
 (h:Calls P f args x.v fun e w'=>e= .returned v/\Below x.v.heap.size x.v w'):Calls P f args x.v fun e w''=>e= .returned v/\∃ y:Up W,w''=y.v:=
 h.mono fun _ w' ⟨he,hb⟩=>⟨he,⟨w',x.h.trans (hb.mono x.h.size)⟩,rfl⟩
theorem upCell {W:World} {p:Addr} {v:Value} (hp:p.block<W.heap.size) (h:W.cell? p=some v) (x:Up W):x.v.cell? p=some v:=(x.h.cell hp).trans h
theorem upRow {W:World} {k:Nat} {t:TypeId} {cs:Array Value} (h:Row W k t cs) (x:Up W) (i:Nat):x.v.cell? ⟨k,i,none⟩=cs[i]?:=(h.below x.h h.lt).cell i
end Go.Proofs.YtgbjdhfaklmjcaaGreat
namespace Go.Proofs.YtgbjdhfaklmjcaaGreat
set_option maxRecDepth 20000
set_option linter.unusedVariables false
set_option linter.unusedSimpArgs false
open Go.RowKit Go.BigFrame
set_option maxHeartbeats 4000000
theorem anyT_take {α:Type} {p:α->Bool} {l:List α} {j:Nat} (h:j<l.length):(l.take (j+1)).any p=((l.take j).any p||p l[j]):=by
 rw [List.take_succ_eq_append_getElem h,List.any_append];simp
theorem anyT_hit {α:Type} {p:α->Bool} {l:List α} {j:Nat} (h:j<l.length) (e:p l[j]=true):l.any p=true:=List.any_eq_true.2 ⟨_,List.getElem_mem h,e⟩
theorem specTidy (p:GProg) (A1:Option Addr) (c1:Nat) (A2:Option Addr) (c2:Nat) (w:World) (hb:p.bulk<=1048576) (hat:GProg.At w (Lt w.heap.size) A1 c1 A2 c2 p):
 Calls Tryz.prog 59 #[.agg #[.slice A1 p.datas.length c1,.int .i64 p.main.op,.int .i64 p.main.n,.string p.main.s,.string p.main.t,.slice A2 p.main.kids.length c2]] w fun e w'=>e= .returned (.bool (tidyP p))/\Below w.heap.size w w':=by
 have hbe:=p.bulk_eq
 have HBM:=LH (show p.main.bulk<=1048576 by omega)
 have HBD:=LH (show bulkL GData.bulk p.datas<=1048576 by omega)
 obtain⟨hs,hm⟩:=hat
 have hlen:p.datas.length<=9223372036854775807:=by simpa using hs.len
 have S0:=LH hs
 have M0:=LH hm
 have HVD:=LH (fun(h:p.datas.any badG=true)=>tidyP_data h)
 have HVM:=LH (fun(h:p.datas.any badG=false)=>tidyP_main h)
 obtain⟨pd,hpd⟩:∃ pd:GData->Bool,pd=badG:=⟨_,rfl⟩
 have HPD:=LH hpd
 rw [<- hpd] at HVD HVM
 have R0:=LH (Row.new w 47 #[.slice A1 p.datas.length c1,.int .i64 p.main.op,.int .i64 p.main.n,.string p.main.s,.string p.main.t,.slice A2 p.main.kids.length c2])
 have E0:=LH (show Below w.heap.size w (w.alloc (.cells #[.slice A1 p.datas.length c1,.int .i64 p.main.op,.int .i64 p.main.n,.string p.main.s,.string p.main.t,.slice A2 p.main.kids.length c2] 47)) from(Below.refl _ _).alloc (Nat.le_refl _) _)
 clear hb hbe hs hm hpd
 go_enter Tryz.func59,Tryz.ntmps59
 go_wp2_with fail
 go_loopw [3] (fun i wr=>∃ (j:Nat),j<=p.datas.length/\i= .int .i64 j/\Hid ((p.datas.take j).any pd=false)/\Hid (Row wr w.heap.size 47 #[.slice A1 p.datas.length c1,.int .i64 p.main.op,.int .i64 p.main.n,.string p.main.s,.string p.main.t,.slice A2 p.main.kids.length c2])/\Below w.heap.size w wr) (fun i _=>p.datas.length - (intOf i).toNat)
 case atStart=>exact⟨0,by omega,by go_num,LH (by simp),R0,E0.out⟩
 case round=>
  clear R0 E0
  obtain⟨j,hj,rfl,HN,HR,hbl⟩:=hrel
  rename World=>wo
  have hsz:=hbl.size
  have hR:=fun i=>HR.out.cell i
  have hRl:=HR.out.lt
  by_cases hlt:j<p.datas.length
  ·
   obtain⟨b,off,B1,d1,rfl,hSb,g0,g1,g2,hatd⟩:=GData.elem (S0.out.below hbl (Nat.le_refl _)) j hlt
   have hns:(p.datas[j]).name.size<=9223372036854775807:=by have:=hatd.1;unfold maxLen at this;omega
   have hcl:(p.datas[j]).cons.length<=9223372036854775807:=by simpa using hatd.2.2.len
   have S1:=LH hatd.2.2
   have HBJ:=LH (fun(k m:Nat) (hk:k<(p.datas[j]).cons.length) (hm:m<((p.datas[j]).cons[k]).args.length)=>Nat.le_trans (arg_bulk hlt hk hm) HBD.out)
   have HG:=LH (show pd p.datas[j]=badG p.datas[j] by rw [HPD.out])
   have HT:=LH (anyT_take (p:=pd) hlt)
   have HH:=LH (fun(e:pd p.datas[j]=true)=>HVD.out (anyT_hit hlt e))
   obtain⟨d,hd⟩:∃ d,d=p.datas[j]:=⟨_,rfl⟩
   rw [<- hd] at g0 g1 g2 hns hcl S1 HG HT HH
   have E1:=LH (show Below wo.heap.size wo (wo.alloc (.cells #[.string d.name,.int .i64 d.vars,.slice B1 d.cons.length d1] 40)) from(Below.refl _ _).alloc (Nat.le_refl _) _)
   have RD:=LH (Row.new wo 40 #[.string d.name,.int .i64 d.vars,.slice B1 d.cons.length d1])
   have RP:=LH (HR.out.below E1.out hRl)
   have B1':=LH (hbl.trans (E1.out.mono hsz))
   have HBJ2:=LH (show ∀ (k m:Nat) (hk:k<d.cons.length) (hm:m<(d.cons[k]).args.length),((d.cons[k]).args[m]).bulk<=1048576 by rw [hd];exact HBJ.out)
   clear hatd HBJ hd
   have HCN:=LH (fun(wx:World)=>specCon d.name wx hns)
   have HIV:=LH (fun(wx:World)=>specIn d.vars 0 26 wx)
   cases hcn:conB d.name
   ·
    have HX:=LH (HH.out (HG.out.trans (badG_name hcn)))
    rw [hcn] at HCN
    clear hcn
    go_wp2_with fail
    refine(HCN.out _).mono ?_
    rintro e w1 ⟨rfl,rfl⟩
    go_wp2_with fail
    go_ret
    exact⟨ret_bool HX.out.symm,B1'.out⟩
   have HCN1:=LH hcn
   rw [hcn] at HCN
   clear hcn
   cases hiv:inB d.vars 0 26
   ·
    have HX:=LH (HH.out (HG.out.trans (badG_vars hiv)))
    rw [hiv] at HIV
    clear hiv
    go_wp2_with fail
    refine(HCN.out _).mono ?_
    rintro e w1 ⟨rfl,rfl⟩
    go_wp2_with fail
    refine(HIV.out _).mono ?_
    rintro e w1 ⟨rfl,rfl⟩
    go_wp2_with fail
    go_ret
    exact⟨ret_bool HX.out.symm,B1'.out⟩
   have HIV1:=LH hiv
   have hv01:0<=d.vars/\d.vars<=26:=by have:=hiv;unfold inB at this;simpa using this
   rw [hiv] at HIV
   clear hiv
   by_cases hc0:d.cons.length=0
   ·
    have HX:=LH (HH.out (HG.out.trans (badG_none hc0)))
    have e1:((d.cons.length:Int) ==0)=true:=by rw [hc0];rfl
    clear hc0
    go_wp2_with fail
    refine(HCN.out _).mono ?_
    rintro e w1 ⟨rfl,rfl⟩
    go_wp2_with fail
    refine(HIV.out _).mono ?_
    rintro e w1 ⟨rfl,rfl⟩
    go_wp2_with fail
    go_ret
    exact⟨ret_bool HX.out.symm,B1'.out⟩
   have HNO:=LH (fun(h:d.cons.any (badK d.vars)=false)=>HG.out.trans (badG_not HCN1.out HIV1.out hc0 h))
   have HYE:=LH (fun(h:d.cons.any (badK d.vars)=true)=>HH.out (HG.out.trans (badG_con h)))
   have HTY:=LH (fun(t:GTy) (X:Option Addr) (cx:Nat) (wx:World) (hx:GTy.At wx (Lt wx.heap.size) X cx t)=>specTypeTidy d.vars hv01.1 hv01.2 (t.bulk+1) t X cx wx (by omega) hx)
   have HDT:=LH (fun(t:GTy) (X:Option Addr) (cx:Nat) (wx:World) (hbx:t.bulk<=1048576) (hx:GTy.At wx (Lt wx.heap.size) X cx t)=>specDeepTy t.deep t X cx wx (Nat.le_refl _) (by have:=t.deep_bulk;omega) hx)
   have e1:((d.cons.length:Int) ==0)=false:=by rw [beq_eq_false_iff_ne];omega
   obtain⟨pk,hpk⟩:∃ pk:GCon->Bool,pk=badK d.vars:=⟨_,rfl⟩
   have HPK:=LH hpk
   rw [<- hpk] at HNO HYE
   clear hpk hv01 hc0
   go_wp2_with fail
   refine(HCN.out _).mono ?_
   rintro e w1 ⟨rfl,rfl⟩
   go_wp2_with fail
   refine(HIV.out _).mono ?_
   rintro e w1 ⟨rfl,rfl⟩
   go_wp2_with fail
   go_loopw [5] (fun i wr2=>∃ (k:Nat),k<=d.cons.length/\i= .int .i64 k/\Hid ((d.cons.take k).any pk=false)/\Hid (Row wr2 w.heap.size 47 #[.slice (some ⟨b,off,none⟩) p.datas.length c1,.int .i64 p.main.op,.int .i64 p.main.n,.string p.main.s,.string p.main.t,.slice A2 p.main.kids.length c2])/\Hid (Row wr2 wo.heap.size 40 #[.string d.name,.int .i64 d.vars,.slice B1 d.cons.length d1])/\Below w.heap.size w wr2) (fun i _=>d.cons.length - (intOf i).toNat)
   case atStart=>exact⟨0,by omega,by go_num,LH (by simp),RP,RD,B1'.out⟩
   case round=>
    clear RP RD B1'
    obtain⟨k,hk,rfl,HK,HRP,HRD,hbk⟩:=hrel
    have hszk:=hbk.size
    have hRD:=fun i=>HRD.out.cell i
    have hRDl:=HRD.out.lt
    have hRPl:=HRP.out.lt
    have S2:=LH (S1.out.keep (w':=wr) (S':=Lt w.heap.size) (fun q hq=>⟨hq,(hbk.block q hq).trans (hbl.block q hq).symm⟩))
    by_cases hkt:k<d.cons.length
    ·
     obtain⟨b2,off2,C2,e2,rfl,hSb2,p0,p1,hatc⟩:=GCon.elem S2.out k hkt
     have hks:(d.cons[k]).name.size<=9223372036854775807:=by have:=hatc.1;unfold maxLen at this;omega
     have hal:(d.cons[k]).args.length<=9223372036854775807:=by simpa using hatc.2.len
     have HKT:=LH (anyT_take (p:=pk) hkt)
     have HKH:=LH (fun(e:pk d.cons[k]=true)=>HYE.out (anyT_hit hkt e))
     have HKG:=LH (show pk d.cons[k]=(!conB (d.cons[k]).name||(d.cons[k]).args.any (badA d.vars)) by rw [HPK.out];rfl)
     have HBK:=LH (HBJ2.out k)
     obtain⟨q,hq⟩:∃ q,q=d.cons[k]:=⟨_,rfl⟩
     have HBQ:=LH (show ∀ (m:Nat) (hm:m<q.args.length),(q.args[m]).bulk<=1048576 by rw [hq];exact fun m hm=>HBK.out m hkt hm)
     rw [<- hq] at p0 p1 hks hal HKT HKH HKG
     have HQ:=LH hq
     clear hatc HBK hq
     have HCK:=LH (fun(wx:World)=>specCon q.name wx hks)
     cases hck:conB q.name
     · have HX:=LH (HKH.out (by rw [HKG.out,hck];rfl))
       rw [hck] at HCK
       clear hck
       go_wp2_with fail
       refine(HCK.out _).mono ?_
       rintro e w1 ⟨rfl,rfl⟩
       go_wp2_with fail
       go_ret
       exact⟨ret_bool HX.out.symm,hbk⟩
     have HKV:=LH (show pk q=q.args.any (badA d.vars) by rw [HKG.out,hck];rfl)
     rw [hck] at HCK
     clear hck
     obtain⟨pa,hpa⟩:∃ pa:GTy->Bool,pa=badA d.vars:=⟨_,rfl⟩
     have HPA:=LH hpa
     rw [<- hpa] at HKV
     clear hpa
     go_wp2_with fail
     refine(HCK.out _).mono ?_
     rintro e w1 ⟨rfl,rfl⟩
     go_wp2_with fail
     rename World=>wk
     go_loopw [6] (fun i wr3=>∃ (m:Nat),m<=q.args.length/\i= .int .i64 m/\Hid ((q.args.take m).any pa=false)/\Hid (Row wr3 w.heap.size 47 #[.slice (some ⟨b,off,none⟩) p.datas.length c1,.int .i64 p.main.op,.int .i64 p.main.n,.string p.main.s,.string p.main.t,.slice A2 p.main.kids.length c2])/\Hid (Row wr3 wo.heap.size 40 #[.string d.name,.int .i64 d.vars,.slice (some ⟨b2,off2,none⟩) d.cons.length d1])/\Below w.heap.size w wr3) (fun i _=>q.args.length - (intOf i).toNat)
     case atStart=>exact⟨0,by omega,by go_num,LH (by simp),HRP,HRD,hbk⟩
     case round=>
      clear hRD hRDl hRPl HRP HRD p0 p1
      obtain⟨m,hm,rfl,HM,HRP,HRD,hbm⟩:=hrel
      have hszm:=hbm.size
      have hRD:=fun i=>HRD.out.cell i
      have hRDl:=HRD.out.lt
      have hRPl:=HRP.out.lt
      have S4:=LH (S2.out.keep (w':=wr) (S':=Lt w.heap.size) (fun q hq=>⟨hq,(hbm.block q hq).trans (hbk.block q hq).symm⟩))
      obtain⟨b3,off3,A3,c3,eA3,hSb3,p0,p1,hat3⟩:=GCon.elem S4.out k hkt
      simp only [Option.some.injEq,Addr.mk.injEq,and_true] at eA3
      obtain⟨rfl,rfl⟩:=eA3
      have hq:=HQ.out
      rw [<- hq] at p0 p1 hat3
      clear hq
      by_cases hmt:m<q.args.length
      ·
       obtain⟨b5,off5,A5,c5,rfl,hSb5,x0,x1,x2,x3,hat5⟩:=GTy.elem hat3.2 m hmt
       have HMT:=LH (anyT_take (p:=pa) hmt)
       have HMH:=LH (fun(e:pa q.args[m]=true)=>HKH.out (HKV.out.trans (anyT_hit hmt e)))
       have HMG:=LH (show pa q.args[m]=(decide (24<(q.args[m]).deep)||!(q.args[m]).tidy d.vars) by rw [HPA.out];rfl)
       have HBT:=LH (HBQ.out m hmt)
       obtain⟨t,ht⟩:∃ t,t=q.args[m]:=⟨_,rfl⟩
       rw [<- ht] at x0 x1 x2 x3 hat5 HMT HMH HMG HBT
       have HD:=LH (fun(wx:World) (hb:Below wr.heap.size wr wx)=>HDT.out t A5 c5 wx HBT.out (hat5.keep (fun q hq=>⟨Nat.lt_of_lt_of_le hq (Nat.le_trans hszm hb.size),hb.block q (Nat.lt_of_lt_of_le hq hszm)⟩)))
       have HE:=LH (fun(wx:World) (hb:Below wr.heap.size wr wx)=>HTY.out t A5 c5 wx (hat5.keep (fun q hq=>⟨Nat.lt_of_lt_of_le hq (Nat.le_trans hszm hb.size),hb.block q (Nat.lt_of_lt_of_le hq hszm)⟩)))
       have l2:b2<wr.heap.size:=Nat.lt_of_lt_of_le hSb2 hszm
       have l5:b5<wr.heap.size:=Nat.lt_of_lt_of_le hSb5 hszm
       have BM:=LH hbm
       have HDV:=LH HRD
       clear hat3 hat5 ht
       cases hdp:decide (24<t.deep)
       ·
        have hd1:decide ((24:Int)<(t.deep:Int))=false:=by rw [decide_eq_false_iff_not] at hdp ⊢;omega
        have hd2:¬ ((24:Int)<(t.deep:Int)):=by simpa using hd1
        have hd3:¬ (24<t.deep):=by omega
        have hd4:decide (24<t.deep)=false:=decide_eq_false hd3
        cases htd:t.tidy d.vars
        all_goals
         rw [htd] at HE
         have HMV:=LH (HMG.out.trans (by rw [hdp,htd]))
         clear hdp htd
         go_wp2_with fail
         have q0:=upRow HRD.out
         have q1:=upCell (p:=⟨b2,off2+k*2+1,none⟩) l2 p1
         have q2:=upCell (p:=⟨b5,off5+m*4,none⟩) l5 x0
         have q3:=upCell (p:=⟨b5,off5+m*4+1,none⟩) l5 x1
         have q4:=upCell (p:=⟨b5,off5+m*4+2,none⟩) l5 x2
         have q5:=upCell (p:=⟨b5,off5+m*4+3,none⟩) l5 x3
         refine wp_region_up wr (Below.refl _ _) (by kernel_rfl) (by kernel_rfl) ?_
         repeat (go_big_quiet_step (first
           | (go_at_call 76;exact upCall (HD.out _ (Up.h _)))
           | (go_at_call 77;exact upCall (HE.out _ (Up.h _)))))
         refine wpQuiet_nil ?_
         rintro w9 ⟨x9,e9⟩
         have B9:=LH (show Below wr.heap.size wr w9 by rw [e9];exact x9.h)
         have RD9:=LH (HRD.out.below B9.out hRDl)
         clear e9 x9 q0 q1 q2 q3 q4 q5
         go_wp2_with fail
         first
         | (go_ret;first | exact⟨ret_bool (HMH.out HMV.out).symm,BM.out.trans (B9.out.mono BM.out.size)⟩ | exact⟨ret_bool (HMH.out HMV.out).symm,(BM.out.trans (B9.out.mono BM.out.size)).drew⟩ | exact⟨ret_bool (HMH.out HMV.out).symm,belowN (BM.out.trans (B9.out.mono BM.out.size)) _⟩)
         | (go_roundw
            case rel=>exact⟨m+1,by omega,by go_num,LH (by rw [HMT.out,HM.out,HMV.out];rfl),LH (HRP.out.below B9.out hRPl),RD9,BM.out.trans (B9.out.mono BM.out.size)⟩
            case measure=>simp [intOf];omega)
       ·
        have hd1:decide ((24:Int)<(t.deep:Int))=true:=by rw [decide_eq_true_eq] at hdp ⊢;omega
        have hd2:(24:Int)<(t.deep:Int):=by simpa using hd1
        have hd3:24<t.deep:=by omega
        have hd4:decide (24<t.deep)=true:=decide_eq_true hd3
        have HX:=LH (HMH.out (HMG.out.trans (by rw [hdp];rfl)))
        clear hdp
        go_wp2_with fail
        have q0:=upRow HRD.out
        have q1:=upCell (p:=⟨b2,off2+k*2+1,none⟩) l2 p1
        have q2:=upCell (p:=⟨b5,off5+m*4,none⟩) l5 x0
        have q3:=upCell (p:=⟨b5,off5+m*4+1,none⟩) l5 x1
        have q4:=upCell (p:=⟨b5,off5+m*4+2,none⟩) l5 x2
        have q5:=upCell (p:=⟨b5,off5+m*4+3,none⟩) l5 x3
        refine wp_region_up wr (Below.refl _ _) (by kernel_rfl) (by kernel_rfl) ?_
        repeat (go_big_quiet_step (first
          | (go_at_call 76;exact upCall (HD.out _ (Up.h _)))
          | (go_at_call 77;exact upCall (HE.out _ (Up.h _)))))
        refine wpQuiet_nil ?_
        rintro w9 ⟨x9,e9⟩
        have B9:=LH (show Below wr.heap.size wr w9 by rw [e9];exact x9.h)
        have RD9:=LH (HRD.out.below B9.out hRDl)
        clear e9 x9 q0 q1 q2 q3 q4 q5
        go_wp2_with fail
        go_ret
        first | exact⟨ret_bool HX.out.symm,BM.out.trans (B9.out.mono BM.out.size)⟩ | exact⟨ret_bool HX.out.symm,(BM.out.trans (B9.out.mono BM.out.size)).drew⟩ | exact⟨ret_bool HX.out.symm,belowN (BM.out.trans (B9.out.mono BM.out.size)) _⟩
      · have HM2:=LH (show pk q=false by have:=HM.out;rw [show m=q.args.length by omega,List.take_length] at this;rw [HKV.out];exact this)
        go_wp2_with fail
        go_roundw
        case rel=>exact⟨k+1,by omega,by go_num,LH (by rw [HKT.out,HK.out,HM2.out];rfl),HRP,HRD,hbm⟩
        case measure=>simp [intOf];omega
    · have HK2:=LH (show d.cons.any pk=false by have:=HK.out;rwa [show k=d.cons.length by omega,List.take_length] at this)
      have HN2:=LH (show(p.datas.take (j+1)).any pd=false by rw [HT.out,HN.out,HNO.out HK2.out];rfl)
      go_wp2_with fail
      go_roundw
      case rel=>exact⟨j+1,by omega,by go_num,HN2,HRP,hbk⟩
      case measure=>simp [intOf];omega
  ·
   have HN2:=LH (show p.datas.any pd=false by have:=HN.out;rwa [show j=p.datas.length by omega,List.take_length] at this)
   have HV:=LH (HVM.out HN2.out)
   have HMA:=LH (M0.out.below hbl hsz)
   have HDM:=LH (fun(wx:World) (hx:GNode.At wx (Lt wx.heap.size) A2 c2 p.main)=>specDeep p.main.deep p.main A2 c2 wx (Nat.le_refl _) (by have:=p.main.deep_bulk;have:=HBM.out;omega) hx)
   have HEM:=LH (fun(wx:World) (hx:GNode.At wx (Lt wx.heap.size) A2 c2 p.main)=>specExp (p.main.bulk+1) p.main A2 c2 wx (by omega) hx)
   by_cases hdm:p.main.deep<=24
   ·
    have hd1:(p.main.deep:Int)<=24:=by omega
    have HVX:=LH (HV.out.trans (by rw [decide_eq_true hdm,Bool.true_and]))
    clear hdm
    go_wp2_with fail
    refine(HDM.out _ HMA.out).mono ?_
    rintro e w1 ⟨rfl,hb1⟩
    have B1:=LH (hbl.trans (hb1.mono hsz))
    have R1:=LH (HR.out.below hb1 hRl)
    have hR1:=fun i=>R1.out.cell i
    have HM1:=LH (M0.out.below B1.out B1.out.size)
    clear hb1
    go_wp2_with fail
    refine(HEM.out _ HM1.out).mono ?_
    rintro e w2 ⟨rfl,hb2⟩
    have B2:=LH (B1.out.trans (hb2.mono B1.out.size))
    clear hb2
    go_wp2_with fail
    go_ret
    exact⟨ret_bool HVX.out.symm,B2.out⟩
   ·
    have hd1:¬ (p.main.deep:Int)<=24:=by omega
    have HVX:=LH (HV.out.trans (by rw [decide_eq_false hdm,Bool.false_and]))
    clear hdm
    go_wp2_with fail
    refine(HDM.out _ HMA.out).mono ?_
    rintro e w1 ⟨rfl,hb1⟩
    have B1:=LH (hbl.trans (hb1.mono hsz))
    clear hb1
    go_wp2_with fail
    go_ret
    exact⟨ret_bool HVX.out.symm,B1.out⟩
end Go.Proofs.YtgbjdhfaklmjcaaGreat
namespace Go.Proofs.YtgbjdhfaklmjcaaGreat
set_option maxRecDepth 20000
set_option linter.unusedVariables false
set_option linter.unusedSimpArgs false
open Go.RowKit
set_option maxHeartbeats 2000000
theorem Mv.chg2 {ts:List GToken} {g:Nat} {L:Option Addr} {cl:Nat} {V:Option Addr} {cv:Nat} {vs:List ByteArray} {st:PSt} {q:Nat} {a b c:World} (h:Mv ts g L cl V cv vs st a b) (k:Bx q b c) (hq:a.heap.size<=q) (hg:g≠q):Mv ts g L cl V cv vs st a c:=by
 have hz:=h.size
 exact⟨⟨k.os.trans h.bx.os,k.tape.trans h.bx.tape,k.output.trans h.bx.output,Nat.le_trans hz k.size,fun x hx hxg=>(k.block x (by omega) (by omega)).trans (h.bx.block x hx hxg)⟩,(k.block g h.row.lt hg).trans h.row,h.vs,h.pos⟩
theorem Mv.cur3 {ts:List GToken} {g:Nat} {L:Option Addr} {cl:Nat} {V:Option Addr} {cv:Nat} {vs:List ByteArray} {st:PSt} {w w':World} (m:Mv ts g L cl V cv vs st w w') (ht:Sl w' (fun b=>b<w'.heap.size/\b≠g) 4 L cl (ts.map GToken.toD)) (hv:Sl w' (fun b=>b<w'.heap.size/\b≠g) 1 V cv (vs.map D.str)) (hf:ts.length<=1048576):PCur ts g L cl V cv st w':=
 ⟨by rw [m.vs];exact m.row,ht,by rw [m.vs];exact hv,m.pos,hf⟩
theorem Mv.trans2 {ts:List GToken} {g:Nat} {L:Option Addr} {cl:Nat} {V V2:Option Addr} {cv cv2:Nat} {vs vs2:List ByteArray} {st st':PSt} {a b c:World} (h:Mv ts g L cl V cv vs st a b) (k:Mv ts g L cl V2 cv2 vs2 st' b c):Mv ts g L cl V2 cv2 vs2 st' a c:=
 ⟨h.bx.trans k.bx,k.row,k.vs,k.pos⟩
theorem tokN_len:∀ (k:Nat) (l:List UInt8) (i:Nat) (acc ts:List GToken),tokN k l i acc=some ts->acc.length<ts.length/\ts.length<=acc.length+k
 | 0,l,i,acc,ts,h=>by simp [tokN] at h
 | k+1,[],i,acc,ts,h=>by simp [tokN] at h;subst h;simp
 | k+1,b::r,i,acc,ts,h=>by
  cases hb:(b ==32||b ==10) with
  | true=>
   rw [tokN_blank _ _ _ _ _ hb] at h
   have:=tokN_len k _ _ _ _ h
   omega
  | false=>
   rw [tokN_one _ _ _ _ _ hb] at h
   split at h
   · have:=tokN_len k _ _ _ _ h
     simp at this
     omega
   · cases h
def PToProg (p:GProg) (w:World) (e:Ending) (w':World):Prop:=
 ∃ A1 c1 A2 c2,e= .returned (.tuple #[.agg #[.slice A1 p.datas.length c1,.int .i64 p.main.op,.int .i64 p.main.n,.string p.main.s,.string p.main.t,.slice A2 p.main.kids.length c2],.int .i64 (-1)])/\GProg.At w' (fun b=>w.heap.size<=b/\b<w'.heap.size) A1 c1 A2 c2 p/\Below w.heap.size w w'
theorem stored6 {w:World} {n:Nat} {T:TypeId} {a0 a1 a2 a3 a4 a5:Value} (h:Row w n T #[a0,a1,a2,a3,a4,a5]) (v0 v1 v2 v3 v4 v5:Value):∃ x,x=((((((w.setCell ⟨n,0,none⟩ v0).setCell ⟨n,1,none⟩ v1).setCell ⟨n,2,none⟩ v2).setCell ⟨n,3,none⟩ v3).setCell ⟨n,4,none⟩ v4).setCell ⟨n,5,none⟩ v5)/\Hid (Row x n T #[v0,v1,v2,v3,v4,v5])/\x.heap.size=w.heap.size/\Hid (Bx n w x):=
 ⟨_,rfl,LH ((((((h.set 0 v0).set 1 v1).set 2 v2).set 3 v3).set 4 v4).set 5 v5),by simp [World.setCell],LH (((((((Bx.refl _ _).set (p:=⟨n,0,none⟩) (.inl rfl) _).set (p:=⟨n,1,none⟩) (.inl rfl) _).set (p:=⟨n,2,none⟩) (.inl rfl) _).set (p:=⟨n,3,none⟩) (.inl rfl) _).set (p:=⟨n,4,none⟩) (.inl rfl) _).set (p:=⟨n,5,none⟩) (.inl rfl) _)⟩
theorem stored5b {w:World} {n:Nat} {T:TypeId} {a0 a1 a2 a3 a4 a5:Value} (h:Row w n T #[a0,a1,a2,a3,a4,a5]) (v1 v2 v3 v4 v5:Value):∃ x,x=(((((w.setCell ⟨n,1,none⟩ v1).setCell ⟨n,2,none⟩ v2).setCell ⟨n,3,none⟩ v3).setCell ⟨n,4,none⟩ v4).setCell ⟨n,5,none⟩ v5)/\Hid (Row x n T #[a0,v1,v2,v3,v4,v5])/\x.heap.size=w.heap.size/\Hid (Bx n w x):=
 ⟨_,rfl,LH (((((h.set 1 v1).set 2 v2).set 3 v3).set 4 v4).set 5 v5),by simp [World.setCell],LH ((((((Bx.refl _ _).set (p:=⟨n,1,none⟩) (.inl rfl) _).set (p:=⟨n,2,none⟩) (.inl rfl) _).set (p:=⟨n,3,none⟩) (.inl rfl) _).set (p:=⟨n,4,none⟩) (.inl rfl) _).set (p:=⟨n,5,none⟩) (.inl rfl) _)⟩
theorem l3Parse (k:Nat) (hkk:k<=900000) (src:ByteArray) (w:World) (hs:src.size<=3000) (ts:List GToken) (ds:List GData) (s1:PSt) (m:GNode) (s2:PSt) (h0:tokN k src.data.toList 0 []=some ts) (h1:pDatas ts k ⟨0,-1,[],false⟩ []=some (ds,s1)) (h2:pE ts k s1=some (m,s2)) (h3:s2.bad<0) (h4:(pNow ts s2).kind=0) (h5:s2.nov=false) (h6:tidyP ⟨ds,m⟩=true) (h7:(⟨ds,m⟩:GProg).bulk<=1048576):
 Calls Tryz.prog 46 #[.string src] w (PToProg ⟨ds,m⟩ w):=by
 have hlen:=tokN_len _ _ _ _ _ h0
 simp only [List.length_nil,Nat.zero_add] at hlen
 have hpos:=hlen.1
 have hfew:ts.length<=1048576:=by omega
 have HT:=LH (fun x:World=>l2Tokens k src x hs ts h0)
 have H1:=LH h1
 have H2:=LH h2
 have H3:=LH h3
 have H4:=LH h4
 have H5:=LH h5
 have H6:=LH h6
 have H7:=LH h7
 clear h0 h1 h2 h3 h4 h5 h6 h7 hlen
 obtain⟨w1,e1,Rr1,hz1,K1⟩:=boxed w 47 #[.slice none 0 0,.int .i64 0,.int .i64 0,.string ⟨#[]⟩,.string ⟨#[]⟩,.slice none 0 0]
 have E1:=LH (show Below w.heap.size w w1 by rw [e1];exact(Below.refl _ _).alloc (Nat.le_refl _) _)
 go_enter Tryz.func46,Tryz.ntmps46
 refine wp_hide (fun BP hBP=>?_)
 have HBP:=LH hBP
 clear hBP
 go_wp2_with fail
 rw [<- e1]
 clear e1
 refine(HT.out w1).mono ?_
 rintro e w2 ⟨L,cl,rfl,hsl,hb2⟩
 have hz2:=hb2.size
 have DT2:=LH hsl
 have Rr2:=LH (Rr1.out.below hb2 Rr1.out.lt)
 have E2:=LH (E1.out.trans (hb2.mono (by omega)))
 clear hsl hb2 Rr1 E1 HT
 go_wp2_with fail
 obtain⟨w3,e3,Rg3,hz3,K3⟩:=boxed w2 90 #[.slice L ts.length cl,.int .i64 0,.int .i64 (-1),.slice none 0 0,.bool false]
 obtain⟨w4,e4,Rp4,hz4,K4⟩:=boxed w3 47 #[.slice none 0 0,.int .i64 0,.int .i64 0,.string ⟨#[]⟩,.string ⟨#[]⟩,.slice none 0 0]
 rw [hz3] at Rp4
 have Rr4:=LH (K4.out.row (K3.out.row Rr2.out (by omega)) (by omega))
 have Rg4:=LH (K4.out.row Rg3.out (by omega))
 have E4:=LH (show Below w.heap.size w w4 by rw [e4,e3];exact(E2.out.alloc (by omega) _).alloc (by simp;omega) _)
 rw [<- e3,<- e4]
 clear e3 e4
 obtain⟨g,hg⟩:∃ g,g=w2.heap.size:=⟨_,rfl⟩
 have M4:=LH (show Mv ts g L cl none 0 [] ⟨0,-1,[],false⟩ w w4 from⟨Bx.of_below E4.out (Nat.le_refl _),by rw [hg];exact Rg4.out,rfl,hpos⟩)
 have DT4:=LH (DT2.out.keep (w':=w4) (S':=fun b=>w.heap.size<b/\b<g) fun b hb=>⟨⟨by have:=hb.1;omega,by have:=hb.2;omega⟩,(K4.out.block b (by have:=hb.2;omega) (by have:=hb.2;omega)).trans (K3.out.block b (by have:=hb.2;omega) (by have:=hb.2;omega))⟩)
 obtain⟨na,hna⟩:∃ n,n=w2.heap.size+1:=⟨_,rfl⟩
 rw [<- hna] at Rp4
 rw [<- hg] at Rg4
 rw [<- hna,<- hg]
 have hng:g<na:=by omega
 have hwg:w.heap.size<g:=by omega
 have h4n:na<w4.heap.size:=by omega
 clear hg hna hz2 hz3 hz4 K3 K4 DT2 Rr2 Rg3 E2 Rg4
 have hINV:∃ I:Nat->World->Prop,I=fun j wr=>∃ (acc:List GData) (s:PSt) (A:Option Addr) (c:Nat) (V:Option Addr) (cv:Nat) (vs:List ByteArray),pDatas ts j s acc=some (ds,s1)/\j<=k/\acc.length+j<=k+1/\Row wr na 47 #[.slice A acc.length c,.int .i64 0,.int .i64 0,.string ⟨#[]⟩,.string ⟨#[]⟩,.slice none 0 0]/\Row wr w.heap.size 47 #[.slice none 0 0,.int .i64 0,.int .i64 0,.string ⟨#[]⟩,.string ⟨#[]⟩,.slice none 0 0]/\Grx (fun b=>w.heap.size<b/\b≠g/\b≠na) wr (na+1) 40 3 (.slice A acc.length c) acc.length (acc.map GData.toD)/\Mv ts g L cl V cv vs s w wr/\Sl wr (fun b=>w.heap.size<b/\b<g) 4 L cl (ts.map GToken.toD)/\Sl wr (fun b=>b<wr.heap.size/\b≠g/\b≠na/\b≠w.heap.size) 1 V cv (vs.map D.str)/\na<wr.heap.size:=⟨_,rfl⟩
 obtain⟨I,hI⟩:=hINV
 have HI:=LH hI
 have I0:I k w4:=by
  rw [hI]
  exact⟨[],⟨0,-1,[],false⟩,none,0,none,0,[],H1.out,Nat.le_refl _,by simp,Rp4.out,Rr4.out,Grx.nil _ _ _ _ _,M4.out,DT4.out,Sl.nil (by unfold maxLen;omega),h4n⟩
 go_loopw [22] (fun v wr=>∃ j,I j wr) (fun _ wr=>leastK (fun j=>I j wr))
 case atStart=>exact⟨k,I0⟩
 case round=>
  have hex:=hrel
  have hleast:=leastK_spec (I:=fun j=>I j wr) hex
  obtain⟨j,hj⟩:∃ j,leastK (fun j=>I j wr)=j:=⟨_,rfl⟩
  rw [hj] at hleast
  have HJ:=LH hj
  clear hj hex hrel I0
  rw [hI] at hleast
  obtain⟨acc,s,A,c,V,cv,vs,hx,hjk,hal,ra,rr,gg,hm,ht,hv,hnl⟩:=hleast
  clear Rp4 Rr4 M4 DT4 hI h4n E4 H1
  have RA0:=LH ra
  have RR0:=LH rr
  have GG0:=LH gg
  have MR0:=LH hm
  have DT0:=LH ht
  have DV0:=LH hv
  have hzr:=hm.size
  clear ra rr gg hm ht hv
  have hcu0:=fun i=>MR0.out.row.cell i
  have hlu0:=MR0.out.row.lt
  have hcr0:=fun i=>RR0.out.cell i
  have hlr0:=RR0.out.lt
  have hca0:=fun i=>RA0.out.cell i
  have hla0:=RA0.out.lt
  cases j with
  | zero=>simp [pDatas] at hx
  | succ j=>
   go_wp2_with fail
   refine(l3Is ts g L cl V cv s wr (MR0.out.cur3 (DT0.out.keep fun b hb=>⟨⟨by have h1:=hb.1;have h2:=hb.2;omega,by have h1:=hb.1;have h2:=hb.2;omega⟩,rfl⟩) (DV0.out.keep fun b hb=>⟨⟨by have h1:=hb.1;have h2:=hb.2;omega,by have h1:=hb.1;have h2:=hb.2;omega⟩,rfl⟩) hfew) ⟨#[100,97,116,97]⟩).mono ?_
   clear hcu0 hlu0 hcr0 hlr0 hca0 hla0
   rintro e w1 ⟨rfl,hb1⟩
   have hz1:=hb1.size
   have K1:=LH (Bx.of_below (g:=g) hb1 (Nat.le_refl _))
   have Rr1:=LH (K1.out.row RR0.out (by omega))
   have Ra1:=LH (K1.out.row RA0.out (by omega))
   have DT1:=LH (DT0.out.keep fun b hb=>K1.out.kq hb (by have h1:=hb.1;have h2:=hb.2;omega))
   have DV1:=LH (DV0.out.keep fun b hb=>K1.out.kq hb (by have h1:=hb.1;have h2:=hb.2;omega))
   have GG1:=LH (GG0.out.keepP (w':=w1) (by omega) fun b hb h=>K1.out.block b hb (by
     rcases h with h | h
     · have:=GG0.out.own b h;omega
     · obtain⟨x1,x2,x3⟩:=h;omega))
   have M1:=LH (MR0.out.below hb1)
   clear RR0 RA0 DT0 DV0 GG0 MR0
   clear hb1
   have hcu1:=fun i=>M1.out.row.cell i
   have hlu1:=M1.out.row.lt
   have hcr1:=fun i=>Rr1.out.cell i
   have hlr1:=Rr1.out.lt
   have hca1:=fun i=>Ra1.out.cell i
   have hla1:=Ra1.out.lt
   cases hs0:pIs ts [100,97,116,97] s
   ·
    simp [pDatas,hs0] at hx
    obtain⟨hxa,hxs⟩:=hx
    rw [<- hxs] at H2
    rw [<- hxa] at H6 H7
    have HXA:=LH hxa
    clear hxa hxs HJ HI
    go_wp2_with fail
    refine(l3E_ok k (by omega) ts g L cl V cv s w1 (M1.out.cur3 (DT1.out.keep fun b hb=>⟨⟨by have h1:=hb.1;have h2:=hb.2;omega,by have h1:=hb.1;have h2:=hb.2;omega⟩,rfl⟩) (DV1.out.keep fun b hb=>⟨⟨by have h1:=hb.1;have h2:=hb.2;omega,by have h1:=hb.1;have h2:=hb.2;omega⟩,rfl⟩) hfew) m s2 H2.out).mono ?_
    clear hcu1 hlu1 hcr1 hlr1 hca1 hla1
    rintro e w2 ⟨Am,cm,rfl,ha2,hm2⟩
    have hz2:=hm2.size
    have K2:=LH hm2.bx
    have DN2:=LH ha2
    have Rr2:=LH (K2.out.row Rr1.out (by omega))
    have Ra2:=LH (K2.out.row Ra1.out (by omega))
    have DT2:=LH (DT1.out.keep fun b hb=>K2.out.kq hb (by have h1:=hb.1;have h2:=hb.2;omega))
    have DV2:=LH (DV1.out.keep fun b hb=>K2.out.kq hb (by have h1:=hb.1;have h2:=hb.2;omega))
    have GG2:=LH (GG1.out.keepP (w':=w2) (by omega) fun b hb h=>K2.out.block b hb (by
      rcases h with h | h
      · have:=GG1.out.own b h;omega
      · obtain⟨x1,x2,x3⟩:=h;omega))
    have M2:=LH (M1.out.trans hm2)
    clear Rr1 Ra1 DT1 DV1 GG1 M1
    clear hm2 ha2
    have hcu2:=fun i=>M2.out.row.cell i
    have hlu2:=M2.out.row.lt
    have hcr2:=fun i=>Rr2.out.cell i
    have hlr2:=Rr2.out.lt
    have hca2:=fun i=>Ra2.out.cell i
    have hfa2:=fun i=>Ra2.out.frozen i
    have hla2:=Ra2.out.lt
    go_wp2_with fail
    clear hcu2 hlu2 hcr2 hlr2 hca2 hfa2 hla2
    obtain⟨w3,e3,RN3,hz3,K3⟩:=stored5b Ra2.out (.int .i64 m.op) (.int .i64 m.n) (.string m.s) (.string m.t) (.slice Am m.kids.length cm)
    have Rr3:=LH (K3.out.row Rr2.out (by omega))
    have DT3:=LH (DT2.out.keep fun b hb=>K3.out.kq hb (by have h1:=hb.1;have h2:=hb.2;omega))
    have DV3:=LH (DV2.out.keep fun b hb=>K3.out.kq hb (by have h1:=hb.1;have h2:=hb.2;omega))
    have Dm3:=LH (DN2.out.keep fun b hb=>K3.out.kq hb (by have h1:=hb.1;have h2:=hb.2;omega))
    have GG3:=LH (GG2.out.keepP (w':=w3) (by omega) fun b hb h=>K3.out.block b hb (by
      rcases h with h | h
      · have:=GG2.out.own b h;omega
      · obtain⟨x1,x2,x3⟩:=h;omega))
    have M3:=LH (M2.out.chg2 K3.out (by omega) (by omega))
    clear Rr2 DT2 DV2 DN2 GG2 M2
    clear Ra2
    rw [<- e3]
    clear e3
    have hcu3:=fun i=>M3.out.row.cell i
    have hlu3:=M3.out.row.lt
    have hcr3:=fun i=>Rr3.out.cell i
    have hlr3:=Rr3.out.lt
    have hca3:=fun i=>RN3.out.cell i
    have hla3:=RN3.out.lt
    have h3:=H3.out
    have d3:decide (s2.bad<0)=true:=decide_eq_true h3
    have d3b:decide (0<=s2.bad)=false:=decide_eq_false (by omega)
    obtain⟨t,ht⟩:∃ t,pNow ts s2=t:=⟨_,rfl⟩
    have hk0:=H4.out
    rw [ht] at hk0
    have hfd:∀ w:World,(Instr.field 95 (.agg #[.int .i64 0,.string t.text,.int .i64 t.n,.int .i64 t.pos]) 0).run Tryz.prog w= .ok (.int .i64 0) w:=fun _=>by kernel_rfl
    have HTT:=LH ht
    have HK0:=LH hk0
    clear h3 ht hk0
    go_wp2_with fail
    have HNW:=LH (l3Now ts g L cl V cv s2 w3 (M3.out.cur3 (DT3.out.keep fun b hb=>⟨⟨by have h1:=hb.1;have h2:=hb.2;omega,by have h1:=hb.1;have h2:=hb.2;omega⟩,rfl⟩) (DV3.out.keep fun b hb=>⟨⟨by have h1:=hb.1;have h2:=hb.2;omega,by have h1:=hb.1;have h2:=hb.2;omega⟩,rfl⟩) hfew))
    rw [HTT.out,HK0.out] at HNW
    refine(HNW.out).mono ?_
    clear hcu3 hlu3 hcr3 hlr3 hca3 hla3
    rintro e w4 ⟨rfl,hb4⟩
    have hz4:=hb4.size
    have K4:=LH (Bx.of_below (g:=g) hb4 (Nat.le_refl _))
    have Rr4:=LH (K4.out.row Rr3.out (by omega))
    have Ra4:=LH (K4.out.row RN3.out (by omega))
    have DT4:=LH (DT3.out.keep fun b hb=>K4.out.kq hb (by have h1:=hb.1;have h2:=hb.2;omega))
    have DV4:=LH (DV3.out.keep fun b hb=>K4.out.kq hb (by have h1:=hb.1;have h2:=hb.2;omega))
    have Dm4:=LH (Dm3.out.keep fun b hb=>K4.out.kq hb (by have h1:=hb.1;have h2:=hb.2;omega))
    have GG4:=LH (GG3.out.keepP (w':=w4) (by omega) fun b hb h=>K4.out.block b hb (by
      rcases h with h | h
      · have:=GG3.out.own b h;omega
      · obtain⟨x1,x2,x3⟩:=h;omega))
    have M4:=LH (M3.out.below hb4)
    clear Rr3 RN3 DT3 DV3 Dm3 GG3 M3
    clear hb4
    have hcu4:=fun i=>M4.out.row.cell i
    have hlu4:=M4.out.row.lt
    have hcr4:=fun i=>Rr4.out.cell i
    have hlr4:=Rr4.out.lt
    have hca4:=fun i=>Ra4.out.cell i
    have hla4:=Ra4.out.lt
    clear HNW
    have hnov:=H5.out
    have HTD:=LH (fun(x:World) (hx:GProg.At x (Lt x.heap.size) A c Am cm ⟨acc,m⟩)=>specTidy ⟨acc,m⟩ A c Am cm x H7.out hx)
    have HPA:=LH (show GProg.At w4 (fun b=>w.heap.size<b/\b<w4.heap.size) A c Am cm ⟨acc,m⟩ from⟨(sl_of_grx (X:=fun b=>w.heap.size<b/\b≠g/\b≠na) GG4.out (fun b h=>⟨by omega,by omega,by omega⟩)).keep fun b hb=>⟨⟨hb.2.1,hb.1⟩,rfl⟩,Dm4.out.keep fun b hb=>⟨⟨by have h1:=hb.1;omega,by have h2:=hb.2;omega⟩,rfl⟩⟩)
    go_wp2_with fail
    refine(HTD.out w4 ⟨HPA.out.1.keep fun b hb=>⟨hb.2,rfl⟩,HPA.out.2.keep fun b hb=>⟨hb.2,rfl⟩⟩).mono ?_
    clear hcu4 hlu4 hcr4 hlr4 hca4 hla4
    rintro e w5 ⟨rfl,hb⟩
    have hz5:=hb.size
    have Rr5:=LH (Rr4.out.below hb Rr4.out.lt)
    have Ra5:=LH (Ra4.out.below hb Ra4.out.lt)
    have HPB:=LH (show GProg.At w5 (fun b=>w.heap.size<b/\b<w5.heap.size) A c Am cm ⟨acc,m⟩ from⟨HPA.out.1.keep fun b hb2=>⟨⟨hb2.1,by have h2:=hb2.2;omega⟩,hb.block b hb2.2⟩,HPA.out.2.keep fun b hb2=>⟨⟨hb2.1,by have h2:=hb2.2;omega⟩,hb.block b hb2.2⟩⟩)
    have BB:=LH (Bx.of_below (g:=g) hb (Nat.le_refl _))
    have BW:=LH (((M4.out.bx.trans BB.out).below (B:=w.heap.size) (Nat.le_refl _) (by omega)))
    have htd:tidyP ⟨acc,m⟩=true:=H6.out
    clear hb HPA
    have hcr5:=fun i=>Rr5.out.cell i
    have hfr5:=fun i=>Rr5.out.frozen i
    have hlr5:=Rr5.out.lt
    have hca5:=fun i=>Ra5.out.cell i
    have hfa5:=fun i=>Ra5.out.frozen i
    have hla5:=Ra5.out.lt
    go_wp2_with fail
    clear hcr5 hca5
    obtain⟨wz,ez,RZ,hzz,KZ⟩:=stored6 Rr5.out (.slice A acc.length c) (.int .i64 m.op) (.int .i64 m.n) (.string m.s) (.string m.t) (.slice Am m.kids.length cm)
    rw [<- ez]
    clear ez
    have hcz:=fun i=>RZ.out.cell i
    show BP _ _
    rw [HBP.out]
    refine bodyPost_ret (v:=.tuple #[.agg #[.slice A acc.length c,.int .i64 m.op,.int .i64 m.n,.string m.s,.string m.t,.slice Am m.kids.length cm],.int .i64 (-1)]) (by simp [results,Tryz.results46,go_sem,hcz]) rfl ?_
    obtain rfl:=HXA.out
    refine⟨A,c,Am,cm,rfl,⟨HPB.out.1.keep fun b hb=>⟨⟨by have h1:=hb.1;omega,by have h2:=hb.2;omega⟩,KZ.out.block b hb.2 (by have h1:=hb.1;omega)⟩,HPB.out.2.keep fun b hb=>⟨⟨by have h1:=hb.1;omega,by have h2:=hb.2;omega⟩,KZ.out.block b hb.2 (by have h1:=hb.1;omega)⟩⟩,BW.out.trans (KZ.out.below (by omega) (Nat.le_refl _))⟩
   ·
    simp [pDatas,hs0,Option.bind_eq_some_iff] at hx
    obtain⟨n1,s3,hq,hr⟩:=hx
    have HR:=LH hr
    have HQ:=LH hq
    clear hr hq
    have HOW:=LH (fun q (hq:(Value.slice A acc.length c).ownBlock=some q)=>GG1.out.own q hq)
    have HOWr:=LH (show ∀ q,(Value.slice A acc.length c).ownBlock=some q->na+1<=q/\q<w1.heap.size from HOW.out)
    have NON0:=LH (show(Value.slice A acc.length c).ownBlock≠some na from fun e=>by have:=(HOW.out _ e).1;omega)
    go_upto_region 7 with (fail)
    refine wp_region_T (fun x=>x.cell? ⟨na,0,none⟩=some (.slice A acc.length c)) 7 (by kernel_rfl) ?_
    clear hcu1 hlu1 hcr1 hlr1 hca1 hla1
    obtain⟨w2,e2⟩:∃ x,x=w1.drew:=⟨_,rfl⟩
    rw [<- e2]
    have hz2:w2.heap.size<=w1.heap.size/\w1.heap.size<=w2.heap.size:=by rw [e2];exact⟨Nat.le_refl _,Nat.le_refl _⟩
    have K2:=LH (show Bx w1.heap.size w1 w2 by rw [e2];exact Bx.of_below ((Below.refl _ _).drew) (Nat.le_refl _))
    clear e2
    have Rr2:=LH (K2.out.row Rr1.out (by omega))
    have Ra2:=LH (K2.out.row Ra1.out (by omega))
    have DT2:=LH (DT1.out.keep fun b hb=>K2.out.kq hb (by have h1:=hb.1;have h2:=hb.2;omega))
    have DV2:=LH (DV1.out.keep fun b hb=>K2.out.kq hb (by have h1:=hb.1;have h2:=hb.2;omega))
    have GG2:=LH (GG1.out.keepP (w':=w2) (by omega) fun b hb h=>K2.out.block b hb (by
      rcases h with h | h
      · have:=GG1.out.own b h;have hbn:b≠na:=fun e=>NON0.out (by rw [<- e];exact h);omega
      · obtain⟨x1,x2,x3⟩:=h;omega))
    have M2:=LH (M1.out.chg2 K2.out (by omega) (by omega))
    clear Rr1 Ra1 DT1 DV1 GG1 M1
    have hcu2:=fun i=>M2.out.row.cell i
    have hlu2:=M2.out.row.lt
    have hcr2:=fun i=>Rr2.out.cell i
    have hlr2:=Rr2.out.lt
    have hca2:=fun i=>Ra2.out.cell i
    have hfa2:=fun i=>Ra2.out.frozen i
    have hla2:=Ra2.out.lt
    have hS1:w2.cell? ⟨na,0,none⟩=some (.slice A acc.length c):=Ra2.out.cell 0
    refine wpAnyT_tk (i:=0) (oi:=_) (v:=?tv1) rfl (Or.inl ⟨by rfl,?th1⟩) hS1 ?_
    case th1=>(intro x hSx;(try dsimp only at hSx);go_simp;(try with_reducible rfl))
    try simp only [nA,nB,nC,Act.put,nD,nE,nF]
    refine wpAnyT_tk (i:=1) (oi:=_) (v:=?tv2) rfl (Or.inl ⟨by rfl,?th2⟩) hS1 ?_
    case th2=>(intro x hSx;(try dsimp only at hSx);go_simp;(try with_reducible rfl))
    try simp only [nA,nB,nC,Act.put,nD,nE,nF]
    refine wpAnyT_tk (i:=2) (oi:=_) (v:=?tv3) rfl (Or.inl ⟨by rfl,?th3⟩) hS1 ?_
    case th3=>(intro x hSx;(try dsimp only at hSx);go_simp;(try with_reducible rfl))
    try simp only [nA,nB,nC,Act.put,nD,nE,nF]
    refine wpAnyT_step (i:=3) (by kernel_rfl) rfl (fun K hK=>?_)
    try simp only [nA,nB,nC]
    go_simp
    go_at_call 55
    refine(l3Data j (by omega) ts g L cl V cv s w2 (M2.out.cur3 (DT2.out.keep fun b hb=>⟨⟨by have h1:=hb.1;have h2:=hb.2;omega,by have h1:=hb.1;have h2:=hb.2;omega⟩,rfl⟩) (DV2.out.keep fun b hb=>⟨⟨by have h1:=hb.1;have h2:=hb.2;omega,by have h1:=hb.1;have h2:=hb.2;omega⟩,rfl⟩) hfew) n1 s3 HQ.out).mono ?_
    clear hcu2 hlu2 hcr2 hlr2 hca2 hfa2 hla2
    rintro e w3 ⟨An1,cn1,V2,cv2,vs2,rfl,ha,hm,hv⟩
    have hz3:=hm.size
    have K3:=LH hm.bx
    have DN3:=LH ha
    have DV3:=LH hv
    have Rr3:=LH (K3.out.row Rr2.out (by omega))
    have Ra3:=LH (K3.out.row Ra2.out (by omega))
    have DT3:=LH (DT2.out.keep fun b hb=>K3.out.kq hb (by have h1:=hb.1;have h2:=hb.2;omega))
    have GG3:=LH (GG2.out.keepP (w':=w3) (by omega) fun b hb h=>K3.out.block b hb (by
      rcases h with h | h
      · have:=GG2.out.own b h;have hbn:b≠na:=fun e=>NON0.out (by rw [<- e];exact h);omega
      · obtain⟨x1,x2,x3⟩:=h;omega))
    clear Rr2 Ra2 DT2 GG2
    have M3:=LH (M2.out.trans2 hm)
    clear hm ha hv M2 DV2
    have hcu3:=fun i=>M3.out.row.cell i
    have hlu3:=M3.out.row.lt
    have hcr3:=fun i=>Rr3.out.cell i
    have hlr3:=Rr3.out.lt
    have hca3:=fun i=>Ra3.out.cell i
    have hla3:=Ra3.out.lt
    have hS2:w3.cell? ⟨na,0,none⟩=some (.slice A acc.length c):=Ra3.out.cell 0
    refine hK.out _ _ hS2 (fun hS3=>?_)
    clear hK K hS1 hS2
    try simp only [nA,nB,nC,Act.put,nD,nE,nF]
    refine wpAnyT_step (i:=4) (by kernel_rfl) rfl (fun K hK=>?_)
    try simp only [nA,nB,nC]
    go_simp
    clear hcu3 hlu3 hcr3 hlr3 hca3 hla3
    obtain⟨w4,e4,Rrow4,hz4,K4⟩:=boxed w3 40 #[.string n1.name,.int .i64 n1.vars,.slice An1 n1.cons.length cn1]
    have Rr4:=LH (K4.out.row Rr3.out (by omega))
    have Ra4:=LH (K4.out.row Ra3.out (by omega))
    have DT4:=LH (DT3.out.keep fun b hb=>K4.out.kq hb (by have h1:=hb.1;have h2:=hb.2;omega))
    have Dn14:=LH (DN3.out.keep fun b hb=>K4.out.kq hb (by have h1:=hb.1;have h2:=hb.2;omega))
    have DV4:=LH (DV3.out.keep fun b hb=>K4.out.kq hb (by have h1:=hb.1;have h2:=hb.2;omega))
    have GG4:=LH (GG3.out.keepP (w':=w4) (by omega) fun b hb h=>K4.out.block b hb (by
      rcases h with h | h
      · have:=GG3.out.own b h;have hbn:b≠na:=fun e=>NON0.out (by rw [<- e];exact h);omega
      · obtain⟨x1,x2,x3⟩:=h;omega))
    have M4:=LH (M3.out.chg2 K4.out (by omega) (by omega))
    clear Rr3 Ra3 DT3 DN3 DV3 GG3 M3
    have SL4:=LH (show Sl w4 (fun b=>b<w4.heap.size/\(Value.slice A acc.length c).ownBlock≠some b/\w.heap.size<b/\b≠g/\b≠na) 3 (some ⟨w3.heap.size,0,none⟩) 1 ([n1].map GData.toD) from Sl.ofRow Rrow4.out (rdC_one1 (GData.rd_mk (Dn14.out.keep (w':=w4) (S':=fun b=>b<w4.heap.size/\(Value.slice A acc.length c).ownBlock≠some b/\w.heap.size<b/\b≠g/\b≠na) fun b hb=>⟨⟨by have h1:=hb.1;have h2:=hb.2;omega,fun e=>by have h1:=hb.1;have h3:=(HOW.out b e).2;omega,by have h1:=hb.1;have h2:=hb.2;omega⟩,rfl⟩)) rfl) ⟨by omega,fun e=>by have h3:=(HOW.out _ e).2;omega,by omega⟩ (by simp) (by unfold maxLen;omega))
    rw [<- e4]
    clear e4
    have hcu4:=fun i=>M4.out.row.cell i
    have hlu4:=M4.out.row.lt
    have hcr4:=fun i=>Rr4.out.cell i
    have hlr4:=Rr4.out.lt
    have hca4:=fun i=>Ra4.out.cell i
    have hla4:=Ra4.out.lt
    have hcrow4:=fun i=>Rrow4.out.cell i
    have hlrow4:=Rrow4.out.lt
    have hS4:w4.cell? ⟨na,0,none⟩=some (.slice A acc.length c):=Ra4.out.cell 0
    refine hK.out _ _ hS4 (fun hS5=>?_)
    clear hK K hS3 hS4
    try simp only [nA,nB,nC,Act.put,nD,nE,nF]
    refine wpAnyT_step (i:=5) (by kernel_rfl) rfl (fun K hK=>?_)
    refine step_append_X w4 rfl (.tmp 24) (.tmp 27) 24 rfl 40 zDt 3 48 Tryz.underlying24 (by kernel_rfl) rfl (by omega) (na+1) (.slice A acc.length c) acc.length _ GG4.out (some ⟨w3.heap.size,0,none⟩) 1 1 _ rfl SL4.out (by omega) (by unfold maxLen;omega) (by omega) rfl rfl ?_
    clear hcu4 hlu4 hcr4 hlr4 hca4 hla4 hcrow4 hlrow4
    intro A5 c5 w5 hG5 hGr5
    obtain⟨acc5,hac5⟩:∃ x,x=acc++[n1]:=⟨_,rfl⟩
    have HAC5:=LH hac5
    have hal5:acc5.length=acc.length+1:=by rw [hac5];simp
    have GN5:=LH (show Grx (fun b=>w.heap.size<b/\b≠g/\b≠na) w5 (na+1) 40 3 (.slice A5 acc5.length c5) acc5.length (acc5.map GData.toD) from by rw [hal5,hac5];simpa using hG5)
    rw [<- hal5]
    have HAL5:=LH hal5
    clear hal5 hac5
    have NON5:=LH (show(Value.slice A5 acc5.length c5).ownBlock≠some na by rw [HAL5.out];exact hGr5.ne NON0.out (by omega))
    obtain⟨q5,hq5,hqn5,hk5⟩:=hGr5.bxn (B:=na+1) (fun q hq=>HOW.out q hq) (by omega) NON0.out (by omega)
    have hz5:=hGr5.size
    have K5:=LH hk5
    clear hG5 hGr5 hk5
    have Rr5:=LH (K5.out.row Rr4.out (by omega))
    have Ra5:=LH (K5.out.row Ra4.out (by omega))
    have DT5:=LH (DT4.out.keep fun b hb=>K5.out.kq hb (by have h1:=hb.1;have h2:=hb.2;omega))
    have DV5:=LH (DV4.out.keep fun b hb=>K5.out.kq hb (by have h1:=hb.1;have h2:=hb.2;omega))
    have M5:=LH (M4.out.chg2 K5.out (by omega) (by omega))
    clear Rr4 Ra4 DT4 DV4 M4
    clear GG4
    have hcu5:=fun i=>M5.out.row.cell i
    have hlu5:=M5.out.row.lt
    have hcr5:=fun i=>Rr5.out.cell i
    have hfr5:=fun i=>Rr5.out.frozen i
    have hlr5:=Rr5.out.lt
    have hca5:=fun i=>Ra5.out.cell i
    have hfa5:=fun i=>Ra5.out.frozen i
    have hla5:=Ra5.out.lt
    have hS6:w5.cell? ⟨na,0,none⟩=some (.slice A acc.length c):=Ra5.out.cell 0
    refine hK.out _ _ hS6 (fun hS7=>?_)
    clear hK K hS5 hS6
    try simp only [nA,nB,nC,Act.put,nD,nE,nF]
    refine wpAnyT_tk (i:=6) (oi:=_) (v:=?tv4) rfl (Or.inl ⟨by rfl,?th4⟩) hS7 ?_
    case th4=>(intro x hSx;(try dsimp only at hSx);go_simp;(try with_reducible rfl))
    try simp only [nA,nB,nC,Act.put,nD,nE,nF]
    refine wpAnyT_last (by kernel_rfl) (by kernel_rfl) rfl (fun K hK=>?_)
    try simp only [nA,nB,nC]
    go_simp
    refine hK.out _ _ ?_
    clear hK K
    try simp only [nA,nB,nC,Act.put,nD,nE,nF]
    clear hS7 HOW
    clear hcu5 hlu5 hcr5 hfr5 hlr5 hca5 hfa5 hla5
    obtain⟨w6,e6,RO6,hz6,K6⟩:=storedF Ra5.out 0 (.slice A5 acc5.length c5)
    have RN6:=LH (show Row w6 na 47 #[.slice A5 acc5.length c5,.int .i64 0,.int .i64 0,.string ⟨#[]⟩,.string ⟨#[]⟩,.slice none 0 0] from RO6.out)
    clear RO6
    have Rr6:=LH (K6.out.row Rr5.out (by omega))
    have DT6:=LH (DT5.out.keep fun b hb=>K6.out.kq hb (by have h1:=hb.1;have h2:=hb.2;omega))
    have DV6:=LH (DV5.out.keep fun b hb=>K6.out.kq hb (by have h1:=hb.1;have h2:=hb.2;omega))
    have GG6:=LH (GN5.out.keepP (w':=w6) (by omega) fun b hb h=>K6.out.block b hb (by
      rcases h with h | h
      · have:=GN5.out.own b h;have hbn:b≠na:=fun e=>NON5.out (by rw [<- e];exact h);omega
      · obtain⟨x1,x2,x3⟩:=h;omega))
    have M6:=LH (M5.out.chg2 K6.out (by omega) (by omega))
    clear Rr5 DT5 DV5 GN5 M5
    clear Ra5
    rw [<- e6]
    clear e6
    have hcu6:=fun i=>M6.out.row.cell i
    have hlu6:=M6.out.row.lt
    have hcr6:=fun i=>Rr6.out.cell i
    have hlr6:=Rr6.out.lt
    have hca6:=fun i=>RN6.out.cell i
    have hla6:=RN6.out.lt
    have hall:=HAL5.out
    have HN:I j w6:=by
     rw [HI.out]
     exact⟨acc5,s3,A5,c5,V2,cv2,vs2,(by rw [HAC5.out];exact HR.out),by omega,by omega,RN6.out,Rr6.out,GG6.out,M6.out,DT6.out,DV6.out.keep fun b hb=>⟨⟨by have h2:=hb.2;omega,by have h1:=hb.1;omega,by have h1:=hb.1;omega,by have h1:=hb.1;omega⟩,rfl⟩,by omega⟩
    go_roundw
    case rel=>first | exact⟨j,HN⟩ | ((repeat apply Exists.intro);exact⟨⟨j,HN⟩,rfl⟩)
    case measure=>rw [HJ.out];exact Nat.lt_succ_of_le (leastK_le (I:=fun j=>I j w6) HN)
set_option maxRecDepth 100000
def litP (l:List UInt8):Option GProg:=
 (tokN 400 l 0 []).bind fun ts=>(pDatas ts 400 ⟨0,-1,[],false⟩ []).bind fun ds=>(pE ts 400 ds.2).bind fun e=>
  if(decide (e.2.bad<0)&&((pNow ts e.2).kind ==0&&!e.2.nov)) then some ⟨ds.1,e.1⟩ else none
def litB (p:GProg):Bool:=tidyP p&&decide (p.bulk<=10000)
theorem parseLit (src:ByteArray) (p:GProg) (hp:litP src.data.toList=some p) (hb:litB p=true) (hs:src.size<=3000) (w:World):Calls Tryz.prog 46 #[.string src] w (PToProg p w):=by
 unfold litP at hp
 obtain⟨ts,h0,hp⟩:=Option.bind_eq_some_iff.1 hp
 obtain⟨⟨ds,s1⟩,h1,hp⟩:=Option.bind_eq_some_iff.1 hp
 obtain⟨⟨m,s2⟩,h2,hp⟩:=Option.bind_eq_some_iff.1 hp
 dsimp only at h2 hp
 split at hp
 ·
  rename_i hc
  simp only [Bool.and_eq_true,decide_eq_true_eq,beq_iff_eq,Bool.not_eq_true'] at hc
  obtain⟨h3,h4,h5⟩:=hc
  obtain rfl:(⟨ds,m⟩:GProg)=p:=by simpa using hp
  unfold litB at hb
  simp only [Bool.and_eq_true,decide_eq_true_eq] at hb
  exact l3Parse 400 (by omega) src w hs ts ds s1 m s2 h0 h1 h2 h3 h4 h5 hb.1 (by omega)
 · cases hp
end Go.Proofs.YtgbjdhfaklmjcaaGreat
