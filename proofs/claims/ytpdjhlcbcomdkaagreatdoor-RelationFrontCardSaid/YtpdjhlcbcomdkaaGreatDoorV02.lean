/- Several texts in one: Constants that stand for the ends of walks. -/
import Derived.Below
import Derived.BigQuiet
import Derived.Carry
import Derived.ChangeArms
import Derived.ChangeSame
import Derived.ChangeSlices
import Derived.Deep.CutBlock
import Derived.Deep.DeepCutAuto
import Derived.Deep.QuietTactic
import Derived.Deep.RegionHeld3
import Derived.Deep.RegionLaw
import Derived.Deep.RegionLawGrows
import Derived.Deep.Slices
import Derived.Great.BuildSlice
import Derived.IntWalk
import Derived.Laws.AppendOwn
import Derived.Laws.AppendOwnNone
import Derived.Laws.BitsAllLaws
import Derived.Laws.BytesString
import Derived.Laws.Cells
import Derived.Laws.IdiomStrings
import Derived.Laws.OwnMore
import Derived.Laws.RangeAny
import Derived.Laws.ResultCell
import Derived.Laws.Rows
import Derived.Laws.Slices
import Derived.Laws.StructEq
import Derived.Lib.ConvBytes
import Derived.Lib.Hide
import Derived.Lib.IndexBytes
import Derived.Lib.MapLaws
import Derived.Lib.RuneCount
import Derived.Lib.ValidLaws
import Derived.Lib.Walk
import Derived.LoopTactic
import Derived.Maps.OwnSet
import Derived.OwnWalk
import Derived.Shelf.GgClosure.Gives
import Derived.StillTailTactics
import Derived.WalkKit
import Derived.WalkSpells
import Derived.WideKeyArgs
import Derived.WideKeyPair
import Derived.Test.YtpdjhlcbcomdkaaGreatDoorV01
set_option linter.unusedVariables false
set_option linter.unusedSimpArgs false
set_option linter.unusedVariables false
namespace Go.Proofs
theorem Yx8 {p:Prop} (h:p:=by
 clear hK K
 try simp only [AnyT.pt]
 refine YP 31 (h:=YP 32 (h:=?_))
 refine YR 33 (h:=fun K hK=>?_)
 go_simp
 have HO:=Lib.hid (HO.out.setV 5 (.slice xa (ws.length+1) xc) (.slice xa (ws.length+1) xc) (.slice ca cs.length cc) (.slice qa qs.length qc) rfl)
 refine AnyT.go_past hK _ _ Yo3 ?_
 clear hK K
 try simp only [AnyT.pt]
 refine YP 34 (h:=YP 35 (h:=?_))
 refine YR 36 (h:=fun K hK=>?_)
 go_simp
 have HO:=Lib.hid (HO.out.setV 6 (.slice ya (cs.length+1) yc) (.slice xa (ws.length+1) xc) (.slice ya (cs.length+1) yc) (.slice qa qs.length qc) rfl)
 refine AnyT.go_past hK _ _ Yo3 ?_
 clear hK K
 try simp only [AnyT.pt]
 refine YP 37 (h:=YP 38 (h:=?_))
 refine YR 39 (h:=fun K hK=>?_)
 go_simp
 have HO:=Lib.hid (HO.out.setV 7 (.slice za (qs.length+1) zc) (.slice xa (ws.length+1) xc) (.slice ya (cs.length+1) yc) (.slice za (qs.length+1) zc) rfl)
 refine AnyT.go_past hK _ _ Yo3 ?_
 clear hK K
 try simp only [AnyT.pt]
 refine AnyT.till_done Yo3 ?_ _
 refine NoPanic.normal ?_
 go_wp2_with fail
 go_meet
 exact ⟨_,_,_,HO.out⟩):p:=h
theorem Yx10 {p:Prop} (h:p:=by
 go_upto_region 11 with (go_at_call 125;refine HC.out.mono ?_;rintro e w2 ⟨⟨a0,rfl,⟨cv,ev,pv,ha0,q1,q2,q3⟩⟩,hb2⟩;obtain ⟨ca,cc,hcv,-⟩:=id q1;obtain ⟨ea,ec,hev,-⟩:=id q2;obtain ⟨pa,pc,hpv,-⟩:=id q3;subst hcv;subst hev;subst hpv;dsimp only [pktAgg] at ha0;subst ha0;have HR:Hid (PktR w2 P (.slice ca P.csrc.length cc) (.slice ea P.ext.length ec) (.slice pa P.payload.length pc)):=⟨q1,q2,q3⟩;have HB2:=Lib.hid hb2;clear q1 q2 q3 hb2)
 clear HC
 have HBA:Hid (Below w.heap.size w (w2.alloc (.cells #[.bool P.marker,.int .i64 P.type,.int .u16 P.seq,.int .u32 P.time,.int .u32 P.ssrc,.slice ca P.csrc.length cc,.bool P.hasExt,.int .u16 P.profile,.slice ea P.ext.length ec,.slice pa P.payload.length pc,.int .i64 P.pad] 79))):=bel_alloc HB2.out (Nat.le_refl _) _
 by_cases her:er=0
 ·subst her
  have HD:Hid (∀ w1,Below w2.heap.size w2 w1→Calls Tryz.prog 126 #[.slice pa P.payload.length pc] w1 fun e w'=>e = .returned (.tuple #[.agg #[.int .i64 (descGet P.payload).1.layer,.bool (descGet P.payload).1.key,.bool (descGet P.payload).1.start,.int .u16 (descGet P.payload).1.frame],.int .i64 (descGet P.payload).2])∧Below w1.heap.size w1 w'):=fun w1 h=>DescGet_any _ P.payload w1 (HR.out.p.below h).r
  rw [if_neg (by simp)] at HX
  generalize descGet P.payload=D at *
  obtain ⟨d,de⟩:=D
  dsimp only at HD HX
  have hs2:w2.heap.size<(w2.alloc (.cells #[.bool P.marker,.int .i64 P.type,.int .u16 P.seq,.int .u32 P.time,.int .u32 P.ssrc,.slice ca P.csrc.length cc,.bool P.hasExt,.int .u16 P.profile,.slice ea P.ext.length ec,.slice pa P.payload.length pc,.int .i64 P.pad] 79)).heap.size:=by show _<(w2.heap.push _).size;rw [Array.size_push];exact Nat.lt_succ_self _
  have hrow:=heap_new w2 (.cells #[.bool P.marker,.int .i64 P.type,.int .u16 P.seq,.int .u32 P.time,.int .u32 P.ssrc,.slice ca P.csrc.length cc,.bool P.hasExt,.int .u16 P.profile,.slice ea P.ext.length ec,.slice pa P.payload.length pc,.int .i64 P.pad] 79)
  have HRA:=Lib.hid (HR.out.below (below_alloc w2 (.cells #[.bool P.marker,.int .i64 P.type,.int .u16 P.seq,.int .u32 P.time,.int .u32 P.ssrc,.slice ca P.csrc.length cc,.bool P.hasExt,.int .u16 P.profile,.slice ea P.ext.length ec,.slice pa P.payload.length pc,.int .i64 P.pad] 79)))
  go_upto_region 14 with (go_at_call 126;refine (HD.out _ (below_alloc _ _)).mono ?_;rintro e w3 ⟨rfl,hb3⟩;have HB3:=Lib.hid hb3;have y0:=(hb3.block _ hs2).trans hrow;have hs3:w2.heap.size<w3.heap.size:=Nat.lt_of_lt_of_le hs2 hb3.size;clear hb3)
  have HR3:=Lib.hid (HRA.out.below HB3.out)
  have HBW:Hid (Below w.heap.size w w3):=HBA.out.trans (HB3.out.mono HBA.out.size)
  have HBV:Hid (Below w.heap.size w (w3.alloc (.cells #[.int .i64 d.layer,.bool d.key,.bool d.start,.int .u16 d.frame] 81))):=bel_alloc HBW.out (Nat.le_refl _) _
  have HRV:=Lib.hid (HR3.out.below (below_alloc w3 (.cells #[.int .i64 d.layer,.bool d.key,.bool d.start,.int .u16 d.frame] 81)))
  have y1:=((below_alloc w3 (.cells #[.int .i64 d.layer,.bool d.key,.bool d.start,.int .u16 d.frame] 81)).block _ hs3).trans y0
  clear hrow HRA HB3 HD
  by_cases hde:de=0
  ·subst hde
   rw [if_neg (by simp)] at HX
   go_wp2_with (with_reducible refine load_at 79 (.tmp 6) rfl ?_;refine load_rowTo2 rfl 79 (.tmp 6) rfl w2.heap.size rfl 79 #[.bool P.marker,.int .i64 P.type,.int .u16 P.seq,.int .u32 P.time,.int .u32 P.ssrc,.slice ca P.csrc.length cc,.bool P.hasExt,.int .u16 P.profile,.slice ea P.ext.length ec,.slice pa P.payload.length pc,.int .i64 P.pad] (0,0) _ y1 Tryz.underlying79 rfl Yo3 ?_)
   go_ret2
   exact ⟨⟨_,by rw [HX.out];rfl,by rw [HX.out];exact ⟨_,_,_,rfl,HRV.out⟩⟩,HBV.out⟩
  ·have bl:(de != 0)=true:=by rw [bne_iff_ne];exact hde
   have bl2:(de == 0)=false:=by rw [beq_eq_false_iff_ne];exact hde
   rw [if_pos hde] at HX
   go_wp2_with fail
   go_ret2
   exact ⟨⟨.nilIface,by rw [HX.out];rfl,by rw [HX.out];rfl⟩,HBV.out⟩
 ·have bl:(er != 0)=true:=by rw [bne_iff_ne];exact her
  have bl2:(er == 0)=false:=by rw [beq_eq_false_iff_ne];exact her
  rw [if_pos her] at HX
  go_wp2_with fail
  go_ret2
  exact ⟨⟨.nilIface,by rw [HX.out];rfl,by rw [HX.out];rfl⟩,HBA.out⟩):p:=h
theorem Yx13 {p:Prop} (h:p:=by
 have HR:=Lib.hid (HR.out.far (fr_grown HG9.out) HFA.out)
 have HR16:=Lib.hid (Row.fr HR16.out (fr_grown HG9.out) (Nat.le_refl _) (owns_typ HC.out.adm (by decide)))
 have HBL:Hid (Below w.heap.size w w6):=((Fr.of_below NoB HBL.out).grown HG9.out HBL.out.size (own_le HC.out.adm)).below
 have HC:=Lib.hid (HC.out.growA HG9.out HA6.out)
 refine AnyT.go_on hK _ _ ?_ (fun _=>?_)
 ·(try dsimp only)
  exact KEEP.out _ _ HC.out.blk HR.out.tk
 clear hK K
 try simp only [AnyT.pt]
 refine YR 17 (h:=fun K hK=>?_)
 refine step_app (by rfl) (.tmp 41) (.tmp 44) 114 (by rfl) w.heap.size elemMed mv M.length (M.flatMap medvCells) (by rfl) HC.out.med _ 1 ([(⟨T.pkt,T.dsc,.slice ca T.pkt.csrc.length cc,.slice ea T.pkt.ext.length ec,.slice pa T.pkt.payload.length pc⟩:MedV)].flatMap medvCells) (by rfl) HR16.out rfl medv_one1 (by rw [HML.out];omega) (by rw [HML.out];omega) ?_ ?_
 ·exact HBL.out.size
 intro v17 w7 HO17 HG17
 have HM7:Hid (w7.ownsRow w.heap.size 97 15 v17 (M++[(⟨T.pkt,T.dsc,.slice ca T.pkt.csrc.length cc,.slice ea T.pkt.ext.length ec,.slice pa T.pkt.payload.length pc⟩:MedV)]).length ((M++[(⟨T.pkt,T.dsc,.slice ca T.pkt.csrc.length cc,.slice ea T.pkt.ext.length ec,.slice pa T.pkt.payload.length pc⟩:MedV)]).flatMap medvCells)):=(by have h:=HO17.out;rw [List.length_append,List.flatMap_append];exact h)
 obtain ⟨ma,mc,hmv,-⟩:=Row.of_owns HM7.out
 rw [show (M++[(⟨T.pkt,T.dsc,.slice ca T.pkt.csrc.length cc,.slice ea T.pkt.ext.length ec,.slice pa T.pkt.payload.length pc⟩:MedV)]).length=j+1 by rw [List.length_append,HML.out];rfl] at hmv
 subst hmv
 have HEA:Hid (∀ x∈M++[(⟨T.pkt,T.dsc,.slice ca T.pkt.csrc.length cc,.slice ea T.pkt.ext.length ec,.slice pa T.pkt.payload.length pc⟩:MedV)],PktR w7 x.p x.cv x.ev x.pv):=fun x hx=>Yo12
 have HFM:Hid (Far w6 (fun i=>mv.ownBlock=some i)):=fun i hi=>(by obtain ⟨cu,hc⟩:=owns_blk HC.out.med i hi;exact ⟨cu,_,_,hc,Or.inr (Or.inr (Or.inl rfl))⟩)
 have HR:=Lib.hid (HR.out.far (fr_grown HG17.out) HFM.out)
 have HBL:Hid (Below w.heap.size w w7):=((Fr.of_below NoB HBL.out).grown HG17.out HBL.out.size (own_le HC.out.med)).below
 have HC:=Lib.hid (HC.out.growM HG17.out HM7.out HEA.out)
 obtain ⟨b0,b1,b2,b3,b4⟩:=HC.out.cells
 have b41:=b4 1
 have b42:=b4 2
 refine AnyT.go_on hK _ _ ?_ (fun _=>?_)
 ·(try dsimp only)
  exact KEEP.out _ _ HC.out.blk HR.out.tk
 clear hK K
 try simp only [AnyT.pt]
 refine YP 18 (h:=YP 19 (h:=?_))
 refine YR 20 (h:=fun K hK=>?_)
 go_simp
 have HFK:Hid (Far w7 (· = w.heap.size)):=fun i hi=>Yo19
 have HR:=Lib.hid (HR.out.far (w':=w7.setCell ⟨w.heap.size,1,none⟩ (.slice na (j+1) nc)) ((Fr.refl _ _ _).setAt _ _) HFK.out)
 have HBL:Hid (Below w.heap.size w (w7.setCell ⟨w.heap.size,1,none⟩ (.slice na (j+1) nc))):=((Fr.of_below NoB HBL.out).setCell (p:=⟨w.heap.size,1,none⟩) (Or.inl (Nat.le_refl _)) _).below
 have HC:=Lib.hid (HC.out.setK 1 (.slice na (j+1) nc))
 obtain ⟨d0,d1,d2,d3,d4⟩:=HC.out.cells
 have d42:=d4 2
 refine AnyT.go_past hK _ _ Yo3 ?_
 clear hK K
 try simp only [AnyT.pt]
 refine YP 21 (h:=YP 22 (h:=?_))
 refine YR 23 (h:=fun K hK=>?_)
 go_simp
 have HFK:Hid (Far (w7.setCell ⟨w.heap.size,1,none⟩ (.slice na (j+1) nc)) (· = w.heap.size)):=fun i hi=>Yo19
 have HR:=Lib.hid (HR.out.far (w':=(w7.setCell ⟨w.heap.size,1,none⟩ (.slice na (j+1) nc)).setCell ⟨w.heap.size,2,none⟩ (.slice ma (j+1) mc)) ((Fr.refl _ _ _).setAt _ _) HFK.out)
 have HBL:Hid (Below w.heap.size w ((w7.setCell ⟨w.heap.size,1,none⟩ (.slice na (j+1) nc)).setCell ⟨w.heap.size,2,none⟩ (.slice ma (j+1) mc))):=((Fr.of_below NoB HBL.out).setCell (p:=⟨w.heap.size,2,none⟩) (Or.inl (Nat.le_refl _)) _).below
 have HC:=Lib.hid (HC.out.setK 2 (.slice ma (j+1) mc))
 refine AnyT.go_past hK _ _ Yo3 ?_
 clear hK K
 try simp only [AnyT.pt]
 refine AnyT.till_done Yo3 ?_ _
 refine NoPanic.normal ?_
 go_wp2_with fail
 go_meet
 exact ⟨na,nc,ma,mc,HC.out,HR.out,HBL.out⟩):p:=h
theorem Yx14 {p:Prop} (h:p:=by
 have HR:Hid ((rn s.data.toList).length≤s.size):=by have:=rn_length_le s.data.toList;rw [Lib.size_eq];exact this
 go_enter Tryz.func161,Tryz.ntmps161
 go_wp2
 go_loopw [3] (fun c w'=>∃ k:Nat,w'=w.iter s (cutAt s.data.toList k)∧c = .int .i64 k∧k≤(rn s.data.toList).length∧Hid (((rn s.data.toList).take k).all (fun p=>okR p.1)=true)) (fun _ w'=>s.size-w'.iterPos w.heap.size)
 case atStart=>exact ⟨0,rfl,rfl,Nat.zero_le _,rfl⟩
 case round=>
  obtain ⟨k,rfl,rfl,hle,hall⟩:=hrel
  by_cases hp:cutAt s.data.toList k<s.size
  ·have hnx:∀ ty,(Instr.next (.pointer (some ⟨w.heap.size,0,none⟩)) true ty).run Tryz.prog (w.iter s (cutAt s.data.toList k))=_:=fun ty=>run_next_any w s _ ty hp
   have hwd:=Lib.decode_width_pos s _ hp
   obtain ⟨h1,h2,h3,h4⟩:=pos_facts s k hp
   have H2:=Lib.hid h2
   have H4:=Lib.hid h4
   clear h2 h4
   have hks:k<s.size:=by omega
   generalize hd:Utf8.decode s (cutAt s.data.toList k)=d at *
   have HD:=Lib.hid hd
   clear hd
   obtain ⟨r,wd⟩:=d
   dsimp only at *
   by_cases hbad:okR r=true
   ·have HB:=Lib.hid hbad
    have hb:=hbad
    unfold okR at hb
    simp only [Bool.and_eq_true,Bool.or_eq_true,decide_eq_true_eq,Bool.not_eq_true',beq_eq_false_iff_ne] at hb
    obtain ⟨⟨b1,b2⟩,b3⟩:=hb
    clear hbad
    have t1:((r:Int) == 65533)=false:=by rw [beq_eq_false_iff_ne];omega
    clear b3
    by_cases b4:r<127
    ·clear b2
     go_wp2
     go_roundw
     case rel=>exact ⟨k+1,by rw [H2.out],by go_num,by omega,all_snoc hall.out H4.out HB.out⟩
     case measure=>simp;omega
    ·have b5:159<r:=by omega
     clear b2
     go_wp2
     go_roundw
     case rel=>exact ⟨k+1,by rw [H2.out],by go_num,by omega,all_snoc hall.out H4.out HB.out⟩
     case measure=>simp;omega
   ·have HF:Hid (may s.data.toList=false):=by
     show _=_
     unfold may;rw [all_bad H4.out (by simpa using hbad)];rfl
    have HC:Hid (r<33∨(127≤r∧r≤159)∨r=65533):=by
     show _∨_
     unfold okR at hbad
     simp at hbad;omega
    clear hbad
    by_cases b1:r<33
    ·go_wp2
     go_ret
     exact ⟨ret_bool HF.out.symm,below_iter _ _ _⟩
    by_cases b2:127≤r∧r≤159
    ·obtain ⟨b2,b3⟩:=b2
     go_wp2
     go_ret
     exact ⟨ret_bool HF.out.symm,below_iter _ _ _⟩
    ·have b3:r=65533:=by have:=HC.out;omega
     subst b3
     go_wp2
     go_ret
     exact ⟨ret_bool HF.out.symm,below_iter _ _ _⟩
  ·have hnx:∀ ty,(Instr.next (.pointer (some ⟨w.heap.size,0,none⟩)) true ty).run Tryz.prog (w.iter s (cutAt s.data.toList k))=_:=fun ty=>run_next_end w s _ ty hp
   have hend:=pos_end s k hp
   have HM:Hid (may s.data.toList=(decide (1≤k) && decide (k≤8))):=by
    show _=_
    have e:(rn s.data.toList).length=k:=by omega
    have h:=hall.out
    rw [←e,List.take_length] at h
    unfold may;rw [h,e,Bool.true_and]
   by_cases c1:1≤k
   ·by_cases c2:k≤8
    ·go_wp2
     go_ret
     exact ⟨ret_bool (by rw [HM.out];first|(simp [c1,c2];done)|(simp [c1,c2];omega)),below_iter _ _ _⟩
    ·go_wp2
     go_ret
     exact ⟨ret_bool (by rw [HM.out];first|(simp [c1,c2];done)|(simp [c1,c2];omega)),below_iter _ _ _⟩
   ·go_wp2
    go_ret
    exact ⟨ret_bool (by rw [HM.out];first|(simp [c1];done)|(simp [c1];omega)),below_iter _ _ _⟩):p:=h
theorem Yx18 {p:Prop} (h:p:=by
 go_wp2_with (first|(go_at_call 78;refine (refused_any 5 0 _).mono ?_;rintro e w5 ⟨⟨cs,rfl,htk⟩,hb5⟩;have HB5:=Lib.hid (HB4.out.trans (hb5.mono HB4.out.size));have hz5:=(HB5.out.block (w.heap.size+1) (hp_lt HZ.out)).trans HZ.out;have hi:=tk_info htk;have hold:=tk_hold htk;have hone:=htk.one;have HTK:=Lib.hid htk;clear htk hb5)|(with_reducible refine store_at 100 (.tmp 6) (.tmp 48) rfl ?_;refine store_rowTo2 rfl 100 (.tmp 6) (.tmp 48) rfl rfl (w.heap.size+1) cs.toArray rfl rfl 100 Yz2a hz5 hi hold hone ?_))
 refine bodyPost_ret (v:= .agg cs.toArray) ?_ rfl ?_
 ·exact results_cell_row (by rfl) _ _ (w.heap.size+1) 100 cs.toArray (0,0) _ (by rfl) (setRow_heap _ _ _ _ _ _ hz5) Tryz.underlying100 rfl hi
 exact ⟨⟨cs,rfl,by rw [HX.out];exact HTK.out.setRow hz5 _⟩,below_setRow (HBW.out.trans (HB5.out.mono HBW.out.size)) (Nat.le_succ _) _⟩):p:=h
theorem Yx19 {p:Prop} (h:p:=by
 go_enter Tryz.func151,Tryz.ntmps151
 go_wp2_with (first|(go_at_call 169;refine CK.out.mono ?_;rintro e w2 ⟨rfl,hb2⟩;have hz2:=(hb2.block w.heap.size (hp_lt hz1)).trans hz1;have HB2:=Lib.hid (HB1.out.trans (hb2.mono HB1.out.size));clear hb2)|(go_at_call 170;refine (reportGet_any _ b _ (HV.out _ HB2.out)).mono ?_;rintro e w4 ⟨⟨a,rfl,hit⟩,hb4⟩;generalize reportGet b=RG at *;obtain ⟨⟨i,ri⟩,er⟩:=RG;dsimp only at hit;obtain ⟨xa,xc,ya,yc,za,zc,ha,hir⟩:=itmR_of hit;subst ha;have HIR:=Lib.hid hir;have hz4:=(hb4.block w.heap.size (hp_lt hz2)).trans hz2;have HB4:=Lib.hid (HB2.out.trans (hb4.mono HB2.out.size));clear hit hir hb4)|(with_reducible refine store_at 173 (.tmp 2) (.tmp 36) rfl ?_;refine store_rowTo2 rfl 173 (.tmp 2) (.tmp 36) rfl rfl w.heap.size #[.int .i64 i.kind,.int .u32 i.ssrc,.int .u64 i.ntp,.int .u32 i.time,.int .u32 i.packets,.int .u32 i.octets,.slice xa i.blocks.length xc,.slice ya i.gone.length yc,.int .u32 i.media,.slice za i.pairs.length zc] rfl rfl 173 Yz1a hz4 Yo3 Yo3 Yo3 ?_))
 refine bodyPost_ret (v:= .tuple #[.agg #[.int .i64 i.kind,.int .u32 i.ssrc,.int .u64 i.ntp,.int .u32 i.time,.int .u32 i.packets,.int .u32 i.octets,.slice xa i.blocks.length xc,.slice ya i.gone.length yc,.int .u32 i.media,.slice za i.pairs.length zc],.int .i64 (ri:Nat),.int .i64 er]) ?_ rfl ?_
 ·exact results_cell2 (p:=2) (u:=3) (v:=4) (by rfl) _ _ w.heap.size 173 #[.int .i64 i.kind,.int .u32 i.ssrc,.int .u64 i.ntp,.int .u32 i.time,.int .u32 i.packets,.int .u32 i.octets,.slice xa i.blocks.length xc,.slice ya i.gone.length yc,.int .u32 i.media,.slice za i.pairs.length zc] (0,0) _ (by rfl) (setRow_heap _ _ _ _ _ _ hz4) Tryz.underlying173 rfl Yo3
 exact ⟨⟨_,by rw [HX.out],by rw [HX.out];exact itmIn_of (HIR.out.setRow hz4 _)⟩,below_setRow HB4.out (Nat.le_refl _) _⟩):p:=h
theorem Yx22 {p:Prop} (h:p:=by
 have hT':=Lib.hid hT
 have CM:=Lib.hid (May_any s w hs)
 have HK:Hid (key s.data.toList=if may s.data.toList then s.data.toList.map low else []):=rfl
 clear hT
 by_cases hm:may s.data.toList=true
 ·have HF:Hid (key s.data.toList=mapD lowF s.data.toList):=by
   show _=_
   rw [HK.out,if_pos hm,mapD_low _ (by rw [validD_rn];exact may_valid hm)]
  have hs2:s.size<35184372088832:=by have:=may_len hm;rw [←Lib.size_eq] at this;omega
  rw [hm] at CM
  clear hm
  have CF:∀ w1,Below w.heap.size w w1→Calls Tryz.prog 177 #[.func (.func 178) #[] #[],.string s] w1 fun e w'=>e = .returned (.string ⟨(Lib.mapD lowF s.data.toList).toArray⟩)∧Below w1.heap.size w1 w':=by
   intro w1 hb
   refine Tryz.strings_Map_runes 178 #[] ?_ lowF s w1 hs2 ?_ ?_ (Utf8Tabs_below hT'.out hb)
   ·exact fun args w=>by kernel_rfl
   ·intro W x hx _
    exact (Key1_any (x:Int) W (by omega) (by omega)).mono fun e w' h=>⟨h.1,0,h.2.symm⟩
   ·intro x hx
    unfold lowF;split <;> omega
  have CF:=Lib.hid CF
  go_enter Tryz.func162,Tryz.ntmps162
  go_wp2_with (first|(go_at_call 161;refine CM.out.mono ?_;rintro e w1 ⟨rfl,hb⟩)|(go_at_call 177;refine (CF.out _ Yo25).mono ?_;rintro e w2 ⟨rfl,hb2⟩))
  go_ret
  refine ⟨?_,hb.trans (hb2.mono hb.size)⟩
  rw [HF.out];rfl
 ·have hm:may s.data.toList=false:=by simpa using hm
  have HF:Hid (key s.data.toList=[]):=by show _=_;rw [HK.out,hm];rfl
  rw [hm] at CM
  clear hm
  go_enter Tryz.func162,Tryz.ntmps162
  go_wp2_with (first|(go_at_call 161;refine CM.out.mono ?_;rintro e w1 ⟨rfl,hb⟩))
  go_ret
  exact ⟨ret_str (by rw [HF.out];rfl),hb⟩):p:=h
theorem Yx26 {p:Prop} (h:p:=by
 clear HX1
 go_enter Tryz.func108,Tryz.ntmps108
 go_wp2_with (go_at_call 131;refine CO.out.mono ?_;rintro e w2 ⟨⟨n,rfl⟩,hb2⟩;have HBW:=Lib.hid (HB1.out.trans (hb2.mono HB1.out.size));have hz2:=(hb2.block w.heap.size (hp_lt hz)).trans hz;have c0:=cell_of hz2 0;simp only [List.getElem?_toArray,List.getElem?_cons_zero] at c0;clear hb2 hz2)
 go_ret2
 exact ⟨⟨.slice none 0 0,by rw [HX.out];rfl,by rw [HX.out];exact Row.nil _ _⟩,by rw [HX.out];exact HR.out.below HBW.out,Fr.of_below _ HBW.out⟩):p:=h
theorem Yx29 {p:Prop} (h:p:=by
 go_enter Tryz.func131,Tryz.ntmps131
 go_wp2_with (first|(go_at_call 160;refine CW.out.mono ?_;rintro e w2 ⟨rfl,rfl⟩)|(go_at_call 83;refine CS.out.mono ?_;rintro e w3 ⟨rfl,hb3⟩;have HB3:=Lib.hid hb3;clear hb3))
 go_ret2
 exact ⟨⟨0,by rw [HX0.out];rfl⟩,bel_alloc HB3.out (Nat.le_refl _) _⟩):p:=h
theorem Yx33 {p:Prop} (h:p:=by
 go_ret
 have h1:Row (w.alloc (.cells (u32s [10,11]).toArray 66)) 66 (.slice (some ⟨w.heap.size,0,none⟩) 2 2) 2 (u32s [10,11]):=rowNew w _ 2 (u32s [10,11]) (by decide)
 have h2:=rowNew (w.alloc (.cells (u32s [10,11]).toArray 66)) 5 17 (bys pk7) (by decide)
 have h3:=rowNew ((w.alloc (.cells (u32s [10,11]).toArray 66)).alloc (.cells (bys pk7).toArray 5)) 32 5 ((bOps w.heap.size).flatMap fun y=>opvCells y.x) (by decide)
 have e1:(w.alloc (.cells (u32s [10,11]).toArray 66)).heap.size=w.heap.size+1:=by show (w.heap.push _).size=_;rw [Array.size_push]
 have e2:((w.alloc (.cells (u32s [10,11]).toArray 66)).alloc (.cells (bys pk7).toArray 5)).heap.size=w.heap.size+2:=by show ((w.heap.push _).push _).size=_;rw [Array.size_push,Array.size_push]
 rw [e1] at h2
 rw [e2] at h3
 refine ⟨rfl,⟨h3,?_⟩,bel_alloc (bel_alloc (below_alloc w _) (Nat.le_refl _) _) (Nat.le_refl _) _⟩
 intro x hx
 simp only [bOps,List.mem_cons,List.mem_nil_iff,or_false] at hx
 rcases hx with rfl|rfl|rfl|rfl|rfl
 ·exact ⟨Row.nil _ _,Row.nil _ _,by decide⟩
 ·exact ⟨Row.nil _ _,Row.nil _ _,by decide⟩
 ·exact ⟨(h1.below (below_alloc _ _)).below (below_alloc _ _),Row.nil _ _,by show (bop 2).name.length<_;decide⟩
 ·exact ⟨Row.nil _ _,Row.nil _ _,by decide⟩
 ·exact ⟨Row.nil _ _,h2.below (below_alloc _ _),by show (bop 4).name.length<_;decide⟩):p:=h
theorem Yx34 {p:Prop} (h:p:=by
 have hb:(er != 0)=true:=by rw [bne_iff_ne];exact her
 have hb2:(er == 0)=false:=by rw [beq_eq_false_iff_ne];exact her
 rw [if_pos her] at HX
 go_wp2_with (first|(go_at_call 78;refine (refused_any 3 er _).mono ?_;rintro e w5 ⟨⟨cs,rfl,htk⟩,hb5⟩;have HB5:=Lib.hid (HB2.out.trans (hb5.mono HB2.out.size));have hz5:=(HB5.out.block (w.heap.size+1) (hp_lt HZ.out)).trans HZ.out;have hi:=tk_info htk;have hold:=tk_hold htk;have hone:=htk.one;have HTK:=Lib.hid htk;clear htk hb5)|(with_reducible refine store_at 100 (.tmp 4) (.tmp 26) rfl ?_;refine store_rowTo2 rfl 100 (.tmp 4) (.tmp 26) rfl rfl (w.heap.size+1) cs.toArray rfl rfl 100 Yz2a hz5 hi hold hone ?_))
 refine bodyPost_ret (v:= .agg cs.toArray) ?_ rfl ?_
 ·exact results_cell_row (by rfl) _ _ (w.heap.size+1) 100 cs.toArray (0,0) _ (by rfl) (setRow_heap _ _ _ _ _ _ hz5) Tryz.underlying100 rfl hi
 exact HEND.out _ cs _ (below_setRow (HBW.out.trans (HB5.out.mono HBW.out.size)) (Nat.le_succ _) _) (HTK.out.setRow hz5 _) HX.out):p:=h
theorem Yx37 {p:Prop} (h:p:=by
 go_enter Tryz.func179,Tryz.ntmps179
 go_wp2_with (first|(go_at_call 191;refine HCK.out.mono ?_;rintro e w' ⟨rfl,rfl⟩)|(go_at_call 155;refine HCG.out.mono ?_;rintro e w' ⟨rfl,rfl⟩))
 go_quiet ((go_at_call 192;exact Calls.quiet_of_same ((CS.out _).mono fun e w' h=>⟨h.1,h.2.symm⟩)))
 go_wp2
 go_ret2
 exact ⟨rfl,bel_drewN hbel _⟩):p:=h
theorem Yx38 {p:Prop} (h:p:=by
 rw [if_pos (by simp [hj])] at HX
 rw [Bool.not_eq_true] at hj
 rw [hj]
 go_wp2_with (first|(go_at_call 78;refine (refused_any 4 0 _).mono ?_;rintro e w5 ⟨⟨cs,rfl,htk⟩,hb5⟩;have HB5:=Lib.hid (HB3.out.trans (hb5.mono HB3.out.size));have hz5:=(HB5.out.block (w.heap.size+1) (hp_lt HZ.out)).trans HZ.out;have hi:=tk_info htk;have hold:=tk_hold htk;have hone:=htk.one;have HTK:=Lib.hid htk;clear htk hb5)|(with_reducible refine store_at 100 (.tmp 4) (.tmp 35) rfl ?_;refine store_rowTo2 rfl 100 (.tmp 4) (.tmp 35) rfl rfl (w.heap.size+1) cs.toArray rfl rfl 100 Yz2a hz5 hi hold hone ?_))
 refine bodyPost_ret (v:= .agg cs.toArray) ?_ rfl ?_
 ·exact results_cell_row (by rfl) _ _ (w.heap.size+1) 100 cs.toArray (0,0) _ (by rfl) (setRow_heap _ _ _ _ _ _ hz5) Tryz.underlying100 rfl hi
 exact HEND.out _ cs _ (below_setRow (HBW.out.trans (HB5.out.mono HBW.out.size)) (Nat.le_succ _) _) (HTK.out.setRow hz5 _) HX.out):p:=h
theorem Yx40 {p:Prop} (h:p:=by
 clear HS hcn
 go_wp2_with (first|(go_at_call 132;refine CG.out.mono ?_;rintro e w2 ⟨⟨tv,rfl,htr⟩,hroom2,hfr2⟩;obtain ⟨ta,tc,htv,-⟩:=id htr;subst htv;have HTR:=Lib.hid htr;have HROOM2:=Lib.hid hroom2;have HFR2:=Lib.hid hfr2;have hs2:=hfr2.size;clear hroom2 hfr2 htr)|(at_builtin;refine wpList_app rfl (.tmp 60) (.tmp 61) 98 rfl w.heap.size elemTurn _ G1.length (G1.flatMap turnCells) rfl ?b1 _ Y1.length (Y1.flatMap turnCells) rfl ?b2 ?b3 ?b4 ?b5 ?b6 ?b7 (fun v' w3 HO HG=>?_)))
 case b1=>exact owns_fr HOWN.out HFR2.out (fun k hk=>by omega)
 case b2=>exact HTR.out
 case b3=>exact turns_len _
 case b4=>exact turns_one _
 case b5=>omega
 case b6=>omega
 case b7=>omega
 go_roundw
 case rel=>
  refine ⟨j+1,by omega,by go_num,by rw [HT.out,HS2.out],?_,?_,?_⟩
  ·exact (HFR.out.trans (HFR2.out.mono hsz (fun _ _ h=>h))).grown HG.out (by omega) (own_le HOWN.out)
  ·rw [HT.out,HS2.out]
   exact RoomAt.grown HROOM2.out (owns_fr HOWN.out HFR2.out (fun k hk=>by omega)) HG.out hb (by decide)
  ·rw [HT.out,HS2.out]
   dsimp only
   rw [List.length_append,List.flatMap_append]
   exact HO.out
 case measure=>simp [intOf];omega):p:=h
theorem Yx41 {p:Prop} (h:p:=by
 (try dsimp only)
 first|exact ⟨HQ3.out.pk.scell 0,HQ3.out.pk.scell 1,HQ3.out.pk.bel⟩|exact ⟨HQ2.out.pk.scell 0,HQ2.out.pk.scell 1,HQ2.out.pk.bel⟩|exact ⟨HQ1.out.pk.scell 0,HQ1.out.pk.scell 1,HQ1.out.pk.bel⟩|exact ⟨k0,k1,HPR8.out.pk.bel⟩|exact KEEP12.out _ (Below.refl _ _).drew):p:=h
theorem Yx42 {p:Prop} (h:p:=by
 go_wp2_with fail
 go_quiet (fail)
 have HB2:=Lib.hid (below_drewN HB.out nq)
 have HZ2:Hid ((wr.drewN nq).heap[w.heap.size]?=some (.cells #[.int .i64 p,.int .i64 s,.int .i64 b,.int .i64 f] 59 (0,0))):=HZ.out
 go_wp2_with fail
 go_roundw
 case rel=>exact ⟨j+1,by omega,by go_num,HB2.out,HZ2.out,HN2.out⟩
 case measure=>simp [intOf];omega):p:=h
theorem Yx43 {p:Prop} (h:p:=by
 go_wp2_with (go_at_call 92;refine CT.out.mono ?_;rintro e w' ⟨rfl,rfl⟩)
 go_ret
 exact ⟨rfl,rfl⟩):p:=h
theorem Yx44 {p:Prop} (h:p:=by
 go_loop [8,23] (fun n i=>∃ k:Nat,k≤s.length∧i = .int .i64 k∧n = .int .u64 (be (s.take k):Nat)) (fun _ i=>s.length-(intOf i).toNat)
 case atStart=>exact ⟨0,Nat.zero_le _,rfl,rfl⟩
 case round=>
  obtain ⟨k,hk,rfl,rfl⟩:=hrel
  by_cases hkq:k<s.length
  ·obtain ⟨g,off,cap,e1,_,_,hc⟩:=b_open (l:=s) HROW.out (by omega)
   cases e1
   have d:=hc k (by omega)
   have HB:Hid (be (s.take (k+1))=be (s.take k)*256+s[k].toNat):=by
    show _=_
    rw [List.take_succ_eq_append_getElem (by omega),be_snoc]
   have hlt:be (s.take k)<72057594037927936:=be_lt7 Yo23
   have hor:=or_byte (be (s.take k)) s[k] hlt
   have hb8:=s[k].toNat_lt
   clear hc
   generalize s[k]=x at *
   generalize be (s.take k)=m at *
   go_wp2
   go_round
   case rel=>exact ⟨k+1,by omega,by go_num,by rw [HB.out];go_num⟩
   case measure=>simp [intOf];omega
  ·obtain rfl:k=s.length:=by omega
   go_wp2
   go_ret2
   exact ⟨rfl,rfl⟩):p:=h
theorem Yx45 {p:Prop} (h:p:=by
 have hc:=HC.out k hkl
 have HBAD:Hid (¬(2≤ss.getD k 0∧ss.getD k 0<3221225472)→pub=5):=by
  intro h
  rw [HP2.out,if_pos]
  rw [List.any_eq_true]
  refine ⟨ss.getD k 0,?_,by generalize ss.getD k 0=z at h ⊢;simp;omega⟩
  rw [List.getD_eq_getElem?_getD,List.getElem?_eq_getElem hkl];exact List.getElem_mem hkl
 generalize hy:ss.getD k 0=y at *
 have HY:=Lib.hid hy
 clear hy
 by_cases g1:y<2
 ·have HF:=Lib.hid (HBAD.out (by omega))
  go_wp2
  go_ret
  exact ⟨ret_int HF.out.symm,below_alloc _ _⟩
 by_cases g2:3221225472≤y
 ·have HF:=Lib.hid (HBAD.out (by omega))
  go_wp2
  go_ret
  exact ⟨ret_int HF.out.symm,below_alloc _ _⟩
 ·go_wp2
  go_round
  case rel=>exact ⟨k+1,by omega,by go_num,fun j hj=>by by_cases hjk:j<k;exact hno.out j hjk;rw [show j=k by omega,HY.out];omega⟩
  case measure=>simp [intOf];omega):p:=h
theorem Yx46 {p:Prop} (h:p:=by
 (try dsimp only)
 first|exact KEEP.out _ (HX3.out)|exact KEEP.out _ HX4.out|exact KEEP.out _ HX5.out|exact KEEP.out _ HX6.out|exact KEEP.out _ HX7.out|exact KEEP.out _ HX8.out):p:=h
theorem Yx47 {p:Prop} (h:p:=by
 have HC:Hid (lowF r=if 65≤r∧r≤90 then r-65+97 else r):=rfl
 by_cases b1:65≤r
 ·by_cases b2:r≤90
  ·have HF:Hid (lowF r=r-65+97):=by show _=_;rw [HC.out,if_pos ⟨b1,b2⟩]
   go_enter Tryz.func178,Tryz.ntmps178
   go_wp2
   go_ret
   exact ⟨ret_int HF.out.symm,rfl⟩
  ·have HF:Hid (lowF r=r):=by show _=_;rw [HC.out,if_neg (by omega)]
   go_enter Tryz.func178,Tryz.ntmps178
   go_wp2
   go_ret
   exact ⟨ret_int HF.out.symm,rfl⟩
 ·have HF:Hid (lowF r=r):=by show _=_;rw [HC.out,if_neg (by omega)]
  go_enter Tryz.func178,Tryz.ntmps178
  go_wp2
  go_ret
  exact ⟨ret_int HF.out.symm,rfl⟩):p:=h
theorem Yx49 {p:Prop} (h:p:=by
 have h:=heap_new (w.alloc (.cells #[.int .i64 kd,.int .i64 peer,.int .i64 src,.int .i64 ly,.string nm,.slice sa sl sc,.slice ba bl bc] 32)) (.cells Yz2a 100)
 have e:(w.alloc (.cells #[.int .i64 kd,.int .i64 peer,.int .i64 src,.int .i64 ly,.string nm,.slice sa sl sc,.slice ba bl bc] 32)).heap.size=w.heap.size+1:=by show (w.heap.push _).size=_;rw [Array.size_push]
 rw [e] at h
 exact h):p:=h
theorem Yx51 {p:Prop} (h:p:=by
 have HN6:=Lib.hid (HN5.out.below (below_drewN (Below.refl _ _) nq))
 go_wp2_with fail
 go_meet
 rw [HC2.out]
 exact HN6.out):p:=h
theorem Yx54 {p:Prop} (h:p:=by
 exact results_cell_row (by rfl) _ _ (w.heap.size+1) 100 cs.toArray (0,0) _ (by rfl) (setRow_heap _ _ _ _ _ _ hz5) Tryz.underlying100 rfl hi):p:=h
theorem Yx56 {p:Prop} (h:p:=by
 exact results_cell2 (p:=2) (u:=3) (v:=4) (by rfl) _ _ w.heap.size 173 Yz1a (0,0) _ (by rfl) (setRow_heap _ _ _ _ _ _ hz2) Tryz.underlying173 rfl Yo3):p:=h
theorem Yx57 {p:Prop} (h:p:=by
 clear hK K
 try simp only [AnyT.pt]
 refine wpAnyH_done Yo3 ?_ _
 refine NoPanic.normal ?_
 go_wp2_with fail
 go_roundw
 case rel=>exact ⟨j+1,.slice na (G1++Y1).length nc,by omega,by go_num,by rw [HTK.out,HSN.out];have h8:=HDL8.out;simp only [List.length_append] at h8 ⊢;exact h8⟩
 case measure=>simp [intOf];omega):p:=h
theorem Yx58 {p:Prop} (h:p:=by
 clear hK K
 try simp only [AnyT.pt]
 refine wpAnyH_done Yo3 ?_ _
 refine NoPanic.normal ?_
 go_wp2_with fail
 go_roundw
 case rel=>exact ⟨j+1,_,by omega,by go_num,HP6.out,by rw [List.range_succ,List.map_append,List.map_cons,List.map_nil,u32s_snoc,HXX.out,←HXS.out];exact HO6.out⟩
 case measure=>simp [intOf];omega):p:=h
theorem Yx59 {p:Prop} (h:p:=by
 have hw:Region.wanted o (yielded ops a.tmps)=true:=by simp [Region.wanted,hgd]
 rw [if_pos hw]
 obtain ⟨z,hinfo,hzs⟩:=E.info
 obtain ⟨i,hi,hz,hsize,hby⟩:=info_parts hinfo
 refine Go.wp_buildSlice t e 1 #[(0,x)] ho #[v] i z E.ht hi hz (by rw [hsize];omega) (by rw [hsize];omega) ?_ h
 have hf:=Go.Great.fill_whole (s:=i.size) (by omega) [v] ((Array.range (1*i.size)).map (z.cells[· % z.cells.size]!)) (fun u hu=>by rw [List.mem_singleton] at hu;subst hu;rw [hv];show 1=_;omega) (by simp)
 have e1:([v].flatMap fun v=>v.cells.toList).toArray=#[v]:=by simp [hv]
 rw [e1] at hf
 simpa [hx] using hf):p:=h
theorem Yx61 {p:Prop} (h:p:=by
 rcases decodeN_shape n b0 b1 b2 b3 with ⟨c,e⟩|⟨c1,c2,c3,cv,e⟩|⟨c1,c2,c3,c4,cv,cs,e⟩|⟨c1,c2,c3,c4,c5,cv,cw,e⟩|e
 ·omega
 all_goals (rw [e];dsimp only;rw [hc _ (by omega)])):p:=h
theorem Yx64 {p:Prop} (h:p:=by
 clear HX1
 go_enter Tryz.func108,Tryz.ntmps108
 go_wp2_with (go_at_call 130;refine CO.out.mono ?_;rintro e w2 ⟨⟨n,l,rfl⟩,hb2⟩;have HBW:=Lib.hid (HB1.out.trans (hb2.mono HB1.out.size));have hz2:=(hb2.block w.heap.size (hp_lt hz)).trans hz;have c0:=cell_of hz2 0;simp only [List.getElem?_toArray,List.getElem?_cons_zero] at c0;clear hb2 hz2)
 go_ret2
 exact ⟨⟨.slice none 0 0,by rw [HX.out];rfl,by rw [HX.out];exact Row.nil _ _⟩,by rw [HX.out];exact HR.out.below HBW.out,Fr.of_below _ HBW.out⟩):p:=h
theorem Yx65 {p:Prop} (h:p:=by
 go_enter Tryz.func164,Tryz.ntmps164
 go_wp2
 go_quiet (fail)
 go_wp2
 go_ret
 exact ⟨ret_int HF.out.symm,by repeat (first|exact Below.refl _ _|refine below_drewN ?_ _|refine Below.drew ?_|refine Below.alloc ?_ (by simp) _)⟩):p:=h
theorem Yx68 {p:Prop} (h:p:=by
 go_enter Tryz.func126,Tryz.ntmps126
 go_wp2
 exact bodyPost_ret (v:= .tuple #[.agg #[.int .i64 0,.bool false,.bool false,.int .u16 0],.int .i64 1]) (by simp [results,Tryz.results126,go_sem]) rfl ⟨rfl,hba⟩):p:=h
theorem Yx70 {p:Prop} (h:p:=by
 have hl:j<l.length:=(List.getElem?_eq_some_iff.1 hz).1
 obtain ⟨g,o,e,h2⟩:=row_atB emiCells 6 (fun _=>rfl) h (by omega)
 exact ⟨g,o,e,fun m v hm=>(h2 j z hz m (by have h:=(List.getElem?_eq_some_iff.1 hm).1;simpa [emiCells] using h)).trans hm⟩):p:=h
theorem Yx71 {p:Prop} (h:p:=by
 have C:=Lib.hid (Read_any v L w hT h hL)
 clear hT h hL
 go_enter Tryz.func24,Tryz.ntmps24
 go_wp2_with (go_at_call 53;refine C.out.mono ?_;rintro e w2 ⟨k,g,b,ov,av,mv,lv,M,R,ep,rfl,-,hrs⟩;have HRS:=Lib.hid hrs;have k1:w2.cell? ⟨k,1,none⟩=some av:=(by rw [cell_of hrs.book.blk 1];rfl);clear hrs)
 go_ret
 refine ⟨⟨av,rfl,?_⟩,HRS.out.bel⟩
 have h:=Row.of_owns HRS.out.book.adm
 rwa [admsTo_len] at h):p:=h
theorem Yx72 {p:Prop} (h:p:=by
 refine AnyT.go_past hK _ _ Yo3 ?_
 clear hK K
 try simp only [AnyT.pt]
 refine AnyT.till_done Yo3 ?_ _
 refine NoPanic.normal ?_
 go_wp2_with fail
 go_meet
 rw [HC2.out]
 exact HN7.out.row _):p:=h
theorem Yx74 {p:Prop} (h:p:=by
 obtain ⟨a,c,rfl,-⟩:=id hv
 clear hv h3
 generalize sift b=X at *
 go_enter Tryz.func105,Tryz.ntmps105
 go_wp2_with fail
 go_ret2
 exact ⟨⟨.nilIface,by rw [HX.out];rfl,by rw [HX.out];rfl⟩,Below.refl _ _⟩):p:=h
theorem Yx75 {p:Prop} (h:p:=by
 rintro e w1 ⟨rfl,rfl⟩
 go_wp2_with fail
 refine bodyPost_ret (v:= .tuple #[.agg #[.int .i64 0,.int .i64 0,.int .i64 0,.bool false],.bool false]) (by simp [results,Tryz.results83,go_sem]) rfl ⟨rfl,below_alloc _ _⟩):p:=h
theorem Yx76 {p:Prop} (h:p:=by
 have HO:=Lib.hid (HO.out.growQ HG30.out HA30.out)
 obtain ⟨za,zc,hx⟩:∃ a c,v30 = .slice a (qs.length+1) c:=by obtain ⟨a,c,h⟩:=Row.form (Row.of_owns HA30.out);exact ⟨a,c,by rw [h,List.length_append];rfl⟩
 subst hx
 obtain ⟨c5,c6,c7,-,-,-,-⟩:=HO.out.facts
 have f5:=frozen_of HO.out.view 5
 have f6:=frozen_of HO.out.view 6
 have f7:=frozen_of HO.out.view 7
 refine AnyT.go_on hK _ _ ?_ (fun hHeld23=>?_)
 ·(try dsimp only)
  exact HO.out.facts
 exact Yx8):p:=h
theorem Yx77 {p:Prop} (h:p:=by
 have HO:=Lib.hid (HO.out.growQ HG30.out HA30.out)
 obtain ⟨za,zc,hx⟩:∃ a c,v30 = .slice a (qs.length+1) c:=by obtain ⟨a,c,h⟩:=Row.form (Row.of_owns HA30.out);exact ⟨a,c,by rw [h,List.length_append];rfl⟩
 subst hx
 obtain ⟨c5,c6,c7,-,-,-,-⟩:=HO.out.facts
 have f5:=frozen_of HO.out.view 5
 have f6:=frozen_of HO.out.view 6
 have f7:=frozen_of HO.out.view 7
 refine AnyT.go_on hK _ _ ?_ (fun hHeld14=>?_)
 ·(try dsimp only)
  exact HO.out.facts
 exact Yx8):p:=h
theorem Yx78 {p:Prop} (h:p:=by
 have HO:=Lib.hid (HO.out.growQ HG30.out HA30.out)
 obtain ⟨za,zc,hx⟩:∃ a c,v30 = .slice a (qs.length+1) c:=by obtain ⟨a,c,h⟩:=Row.form (Row.of_owns HA30.out);exact ⟨a,c,by rw [h,List.length_append];rfl⟩
 subst hx
 obtain ⟨c5,c6,c7,-,-,-,-⟩:=HO.out.facts
 have f5:=frozen_of HO.out.view 5
 have f6:=frozen_of HO.out.view 6
 have f7:=frozen_of HO.out.view 7
 refine AnyT.go_on hK _ _ ?_ (fun hHeld6=>?_)
 ·(try dsimp only)
  exact HO.out.facts
 exact Yx8):p:=h
theorem Yx80 {p:Prop} (h:p:=by
 have hfl:=flat_length f k hk l
 obtain ⟨g,off,cap,h1,h2,h3,h4,h5⟩:=h.open (by rw [hfl];exact Nat.mul_pos hl hk0)
 refine ⟨g,off,cap,h1,h2,h3,h4,fun i x hx j hj=>?_⟩
 have hi:i<l.length:=(List.getElem?_eq_some_iff.1 hx).1
 have hlt:i*k+j<l.length*k:=by
  have h6:(i+1)*k≤l.length*k:=Nat.mul_le_mul_right _ hi
  rw [Nat.succ_mul] at h6
  omega
 rw [Nat.add_assoc,h5 _ (by rw [hfl];exact hlt)]
 exact flat_at f k hk l i j x hx hj):p:=h
theorem Yx83 {p:Prop} (h:p:=by
 have HX1:Hid (X=(([],R),if heardBy R peer md then 0 else 1)):=by show _=_;rw [HIT.out];simp
 have CO:=Lib.hid (Heard_any b R peer md _ HR1.out hm0 hm1)
 clear HIT hI hS hgr hR hm0 hm1 hgl
 generalize heardBy R peer md=O at *
 cases O with
 | false=>
  have HX:Hid (X=(([],R),1)):=by show _=_;rw [HX1.out];rfl
  exact Yx26
 | true=>
  have HX:Hid (X=(([],R),0)):=by show _=_;rw [HX1.out];rfl
  exact Yx26):p:=h
theorem Yx84 {p:Prop} (h:p:=by
 rw [hn] at CN
 clear hn h hR
 go_enter Tryz.func81,Tryz.ntmps81
 go_wp2_with fail
 refine (CN.out _).mono ?_
 rintro e w1 ⟨rfl,rfl⟩
 go_wp2_with fail
 refine bodyPost_ret (v:= .tuple #[.agg #[.int .i64 0,.int .i64 0,.slice none 0 0,.bool false],.bool false]) (by simp [results,Tryz.results81,go_sem]) rfl ⟨rfl,below_alloc _ _⟩):p:=h
theorem Yx85 {p:Prop} (h:p:=by
 obtain ⟨la,lcap,rfl,hx⟩:=hrow
 clear hx
 have HLE:Hid (L=[]):=List.eq_nil_of_length_eq_zero h0
 go_wp2_with fail
 go_loopw [7,22] (fun v i w'=>v = .slice none 0 0∧i = .int .i64 0∧w'=w1) (fun _ _ _=>0)
 case atStart=>exact ⟨rfl,rfl,rfl⟩
 case round=>
  obtain ⟨rfl,rfl,rfl⟩:=hrel
  go_wp2
  go_ret
  rw [HM0.out,HLE.out]
  exact ⟨⟨_,rfl,Row.nil _ _⟩,HROOM0.out,HFR0.out⟩):p:=h
theorem Yx88 {p:Prop} (h:p:=by
 clear HW
 go_enter Tryz.func176,Tryz.ntmps176
 go_wp2
 go_ret
 exact ⟨ret_bool HF.out.symm,rfl⟩):p:=h
theorem Yx89 {p:Prop} (h:p:=by
 clear HW3
 go_enter Tryz.func109,Tryz.ntmps109
 go_wp2_with (first|(go_at_call 111;refine (C1.out _).mono ?_;rintro e w1 ⟨rfl,rfl⟩)|(go_at_call 80;refine (CT.out _ (below_alloc _ _)).mono ?_;rintro e w1 ⟨rfl,rfl⟩))
 go_ret
 exact ⟨ret_int HF.out.symm,below_alloc _ _⟩):p:=h
theorem Yx90 {p:Prop} (h:p:=by
 refine bodyPost_ret (v:= .agg #[.int .i64 ca,.int .i64 cc,.bool cp,.bool cm]) ?_ rfl ?_
 ·exact results_cell_row (by rfl) _ _ (w.heap.size+1) 202 #[.int .i64 ca,.int .i64 cc,.bool cp,.bool cm] (0,0) _ (by rfl) (setRow_heap _ _ _ _ _ _ zA) Tryz.underlying202 rfl Yo3
 exact ⟨by rw [HX1.out],below_setRow HNa.out.bel (Nat.le_succ _) _⟩):p:=h
theorem Yx92 {p:Prop} (h:p:=by
 obtain ⟨hl,h⟩:=h
 refine ⟨by rw [List.length_set];exact hl,?_⟩
 rcases h with ⟨_,h⟩|⟨g',cap',cur,hv,hg,hh,h1,h2,h3,h4⟩
 ·omega
 ·cases hv
  refine Or.inr ⟨g,cap,cur.setIfInBounds i u,rfl,hg,by simp [World.setCell,Array.getElem?_modify,hh],h1,h2,by rw [Array.size_setIfInBounds];exact h3,?_⟩
  rw [Array.toList_setIfInBounds,List.take_set,h4]):p:=h
theorem Yx94 {p:Prop} (h:p:=by
 obtain ⟨rfl,rfl⟩:=h0 rfl
 have:news=[]:=List.eq_nil_of_length_eq_zero (by rw [hl,Nat.zero_mul])
 subst this
 refine wpList_append_own_none hgd s x t ho base e i size E.ht hi v n xs hs hown hx (h v w ?_ ?_)
 ·show World.ownsRow _ _ _ _ _ _ _;rw [List.append_nil];exact hown
 ·exact ⟨rfl,rfl,rfl,Nat.le_refl _,fun _ _ _=>rfl⟩):p:=h
theorem Yx96 {p:Prop} (h:p:=by
 exact results_cell2 (p:=2) (u:=3) (v:=4) (by rfl) _ _ w.heap.size 173 Yz1a (0,0) _ (by rfl) (setRow_heap _ _ _ _ _ _ hz1) Tryz.underlying173 rfl Yo3):p:=h
theorem Yx97 {p:Prop} (h:p:=by
 rw [hxx]
 show _∈DataW.weights Tryz.prog 32 (.agg (xs.map (·.1)))
 unfold DataW.weights
 rw [Tryz.underlying32]
 dsimp only
 refine DataW.weights_mem_each (j:=4) (t:=9) (d:= .lit (.string s4.data.toList)) rfl ?_ _ (by simp [DataW.weights])
 rw [List.getElem?_map,e4,gy4]
 rfl):p:=h
theorem Yx100 {p:Prop} (h:p:=by
 go_enter Tryz.func171,Tryz.ntmps171
 go_wp2_with (first|(go_at_call 155;refine CG.out.mono ?_;rintro e w' ⟨rfl,rfl⟩)|(go_at_call 182;refine HCZ.out.mono ?_;rintro e w' ⟨rfl,rfl⟩))
 go_ret2
 exact ⟨rfl,rfl⟩):p:=h
theorem Yx101 {p:Prop} (h:p:=by
 rw [hth] at hix
 clear ht hth
 go_wp2_with (go_at_call 156;refine (CI.out _ (below_alloc _ _)).mono ?_;rintro e w1 ⟨rfl,rfl⟩)
 go_roundw
 case rel=>exact ⟨k+1,by omega,by go_num,hbl.trans ((below_alloc _ _).mono hbl.size),HF.out⟩
 case measure=>simp [intOf];omega):p:=h
theorem Yx102 {p:Prop} (h:p:=by
 obtain ⟨rfl,rfl⟩:=h0 rfl
 have:news=[]:=List.eq_nil_of_length_eq_zero (by rw [hl,Nat.zero_mul])
 subst this
 refine ⟨v,w,run_append_owned_none (P:=P) (w:=w) base t ty e i size E.ht hi v n xs hown,?_,⟨rfl,rfl,rfl,Nat.le_refl _,fun _ _ _=>rfl⟩⟩
 rw [List.append_nil];exact hown):p:=h
theorem Yx103 {p:Prop} (h:p:=by
 clear HX
 go_enter Tryz.func143,Tryz.ntmps143
 go_wp2_with fail
 go_ret
 exact ⟨by rw [HX1.out];rfl,rfl⟩):p:=h
theorem Yx105 {p:Prop} (h:p:=by
 clear hR
 go_enter Tryz.func110,Tryz.ntmps110
 go_wp2_with (go_at_call 140;refine (C.out _ Yo8).mono ?_;rintro e w1 ⟨⟨tv,rfl,htr⟩,hroom,hfr⟩)
 go_ret
 exact turnsPost_of HF htr hroom Yo8 hfr):p:=h
theorem Yx108 {p:Prop} (h:p:=by
 have hl:s.data.toList.length=s.size:=(Lib.size_eq s).symm
 have h1:=(cutAt_lt s.data.toList k).1 (by omega)
 refine ⟨h1,?_,cutAt_ge _ _ (by omega),?_⟩
 ·rw [cutAt_succ _ _ (by omega),decodeL_drop]
 ·rw [List.getElem?_eq_getElem h1,rn_at _ _ h1,decodeL_drop]):p:=h
theorem Yx110 {p:Prop} (h:p:=by
 have e:(w.alloc (.cells #[.int .i64 kd,.int .i64 p,.int .i64 n,.int .i64 q,.string (str nm),.slice sa ss.length sc,.slice ba bl bc] 32)).heap.size=w.heap.size+1:=by show (w.heap.push _).size=_;rw [Array.size_push]
 rw [e] at h
 exact h):p:=h
theorem Yx111 {p:Prop} (h:p:=by
 go_roundw
 case rel=>exact ⟨k+1,by omega,by go_num,hbl.trans (hb2.mono hbl.size),Nat.lt_of_lt_of_le hsz hb2.size,hbox2,fun j hj=>by by_cases hjk:j<k;exact hno.out j hjk;rw [show j=k by omega];exact HF.out⟩
 case measure=>simp [intOf];omega):p:=h
theorem Yx112 {p:Prop} (h:p:=by
 rw [show j / 7*7+j % 7=j by omega] at this
 rw [this,←(hY (j / 7) hi).1 (j % 7) (by omega)]
 rw [add_none ha]
 unfold Addr.add
 split
 ·rename_i e;rw [show a.off+j=a.off+j / 7*7 by omega]
 ·rw [show a.off+j=a.off+j / 7*7+j % 7 by omega]):p:=h
theorem Yx113 {p:Prop} (h:p:=by
 obtain ⟨g,off,cap,h1,h2,h3,h4,h5⟩:=h.open (by rw [u32s_length];exact hl)
 refine ⟨g,off,cap,h1,h2,h3,h4,fun j hj=>?_⟩
 rw [h5 j (by rw [u32s_length];exact hj),List.getD_eq_getElem?_getD,List.getElem?_eq_getElem hj]
 simp [u32s,hj]):p:=h
theorem Yx114 {p:Prop} (h:p:=by
 have h3:=HFR.out.trans (HFR2.out.mono (by omega) (fun _ _ h=>h))
 exact (h3.alloc (by omega) _).grown HG.out Yo16 (own_le HOWN.out)):p:=h
theorem Yx115 {p:Prop} (h:p:=by
 exfalso
 have hne:(sift b).1 ≠ .feedback l:=by
  unfold sift
  split
  ·exact fun h=>by cases h
  split
  ·exact fun h=>by cases h
  split
  ·exact fun h=>by cases h
  split
  ·exact fun h=>by cases h
  ·exact fun h=>by cases h
 exact hne hv):p:=h
theorem Yx116 {p:Prop} (h:p:=by
 show _=_
 rw [HP2.out,if_neg]
 rw [List.any_eq_true]
 rintro ⟨x,hx,hx2⟩
 obtain ⟨j,hj,rfl⟩:=List.getElem_of_mem hx
 have:=hno.out j (by omega)
 rw [List.getD_eq_getElem?_getD,List.getElem?_eq_getElem hj] at this
 simp at hx2 this;omega):p:=h
theorem Yx118 {p:Prop} (h:p:=by
 intro wS hSw;(try dsimp only at hSw)
 refine (exec_load_mid 59 (.tmp 3) ?_ w.heap.size 0 ?_ [.int .i64 p,.int .i64 sr,.int .i64 b,.int .i64 f] _ hSw.1 Tryz.underlying59 rfl Yo3).trans ?_
 all_goals rfl):p:=h
theorem Yx119 {p:Prop} (h:p:=by
 (try dsimp only)
 first|exact KEEP.out _ H3.out.blk hz3|exact KEEP.out _ H2.out.blk hz2|exact KEEP.out _ H1d.out.blk hzd):p:=h
theorem Yx120 {p:Prop} (h:p:=by
 go_quiet (fail)
 have HB2:=Lib.hid (below_drewN HB.out nq)
 go_wp2_with fail
 go_ret
 exact ⟨by rw [HX.out];rfl,HB2.out⟩):p:=h
theorem Yx122 {p:Prop} (h:p:=by
 go_wp2
 go_roundw
 case rel=>exact ⟨k+1,by omega,by go_num,HFR.out.alloc hsz _,by rw [HF.out];exact HROOM.out.below (below_alloc _ _),by rw [HF.out];exact HOWN.out.alloc _⟩
 case measure=>simp [intOf];omega):p:=h
theorem Yx123 {p:Prop} (h:p:=by
 have HF:Hid (pub=0):=by
  show _=_
  rw [HP4.out,if_neg]
  rw [List.any_eq_true]
  rintro ⟨j,hj,hj2⟩
  rw [hno.out j (by simp at hj;omega)] at hj2
  cases hj2
 go_wp2
 go_ret
 exact ⟨ret_int HF.out.symm,hbl⟩):p:=h
theorem Yx128 {p:Prop} (h:p:=by
 go_enter Tryz.func83,Tryz.ntmps83
 go_wp2_with fail
 refine (CP.out _).mono ?_
 rintro e w1 ⟨rfl,rfl⟩
 go_wp2_with fail
 refine (CN.out _).mono ?_
 exact Yx75):p:=h
theorem Yx129 {p:Prop} (h:p:=by
 have hkk:k=L.length:=by omega
 have hT:L.take k=L:=by rw [hkk,List.take_length]
 rw [hT] at HOWN
 clear hT hrow
 go_wp2
 go_ret
 rw [HM0.out]
 exact ⟨⟨_,rfl,Row.of_owns HOWN.out⟩,HROOM.out,HFR.out⟩):p:=h
theorem Yx130 {p:Prop} (h:p:=by
 (try dsimp only)
 with_reducible first|exact KEEP4.out _ (bel_alloc (Below.refl _ _).drew (Nat.le_refl _) _)|exact KEEP4.out _ (below_setRow (bel_alloc (Below.refl _ _).drew (Nat.le_refl _) _) (Nat.le_refl _) _)):p:=h
theorem Yx131 {p:Prop} (h:p:=by
 go_enter Tryz.func171,Tryz.ntmps171
 go_wp2_with (go_at_call 155;refine CG.out.mono ?_;rintro e w' ⟨rfl,rfl⟩)
 go_ret2
 exact ⟨rfl,rfl⟩):p:=h
theorem Yx132 {p:Prop} (h:p:=by
 go_quiet ((go_at_call 115;exact Calls.quiet_of_same (CL.out _)))
 have HB2:=Lib.hid (below_drewN HB.out nq)
 clear CL
 go_wp2_with fail
 go_ret
 exact ⟨by rw [HX.out];rfl,HB2.out⟩):p:=h
theorem Yx135 {p:Prop} (h:p:=by
 clear HE HE2
 go_upto_region 9 with fail
 go_quiet (fail)
 go_wp2
 go_roundw
 case rel=>exact ⟨q,by omega,rfl,HE3.out,below_drewN HBEL.out _,below_drewN HBEL2.out _⟩
 case measure=>simp [intOf]):p:=h
theorem Yx137 {p:Prop} (h:p:=by
 rw [←g2]
 show nextS (nextS (opens R) ⟨1,o.peer,o.source,o.layer,0⟩) t2=_
 unfold nextS
 rw [if_neg (show ¬t2.kind=1 by omega),if_neg (show ¬t2.kind=2 by omega),if_pos rfl]
 rfl):p:=h
theorem Yx138 {p:Prop} (h:p:=by
 go_enter Tryz.func160,Tryz.ntmps160
 go_wp2_with fail
 refine CO.out.mono ?_
 rintro e w' ⟨rfl,rfl⟩
 go_wp2_with fail
 go_ret3
 exact ⟨rfl,rfl⟩):p:=h
theorem Yx139 {p:Prop} (h:p:=by
 exact bodyPost_ret (v:= .tuple #[.agg #[.int .i64 0,.int .i64 0,.int .i64 0],.int .i64 2]) (by simp [results,Tryz.results152,go_sem]) rfl ⟨rfl,below_alloc _ _⟩):p:=h
theorem Yx140 {p:Prop} (h:p:=by
 exact bodyPost_ret (v:= .tuple #[.agg #[.int .i64 0,.int .i64 0,.int .i64 0],.int .i64 1]) (by simp [results,Tryz.results152,go_sem]) rfl ⟨rfl,below_alloc _ _⟩):p:=h
theorem Yx141 {p:Prop} (h:p:=by
 have hn:(i:Int)<n:=by omega
 have h0:(0:Int)≤i:=by omega
 simp [Instr.index,asIntOf,Sem.run_bind,run_underlying h w,h0,hi,part,hagg,sizeOf,typeInfo,hq,hs',hy]):p:=h
theorem Yx142 {p:Prop} (h:p:=by
 go_enter Tryz.func141,Tryz.ntmps141
 go_wp2
 go_ret
 exact ⟨⟨_,rfl,by rw [HF.out];exact Row.nil _ _⟩,Below.refl _ _⟩):p:=h
theorem Yx143 {p:Prop} (h:p:=by
 rw [if_neg e]
 have:(decide (m=n) && decide (q=p))=false:=by
  rw [Bool.eq_false_iff];intro h;simp only [Bool.and_eq_true,decide_eq_true_eq] at h;exact e h
 rw [this];rfl):p:=h
theorem Yx145 {p:Prop} (h:p:=by
 refine ⟨h.bel.setCell (by simp) _,?_,?_⟩
 ·have:=h.blk0
  simp [World.setCell,Array.getElem?_modify,this]
 ·have:=h.blk
  simp [World.setCell,Array.getElem?_modify,this]):p:=h
theorem Yx146 {p:Prop} (h:p:=by
 clear hrow
 go_enter Tryz.func134,Tryz.ntmps134
 go_wp2
 go_ret
 exact ⟨ret_int HF.out.symm,below_alloc _ _⟩):p:=h
end Go.Proofs
