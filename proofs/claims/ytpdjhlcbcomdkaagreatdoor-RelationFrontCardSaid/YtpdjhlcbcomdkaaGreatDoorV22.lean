/- Several texts in one: The walk of a view's Sent. The walks of relation.Admits and relation.Sent. The script of law 21's shown: what comes of it. Plain. The walks of law 21's begin, shown and few. The plain room: what a row of turns does to the set of the subscriptions that are open; when all have left there is nothing. No program in sight. Lives and turns: which turns begin a subscription, which end one. Plain: no program in sight. What is not let in could as well not have come. Plain. -/
import Derived.Test.YtpdjhlcbcomdkaaGreatDoorV01
import Derived.Test.YtpdjhlcbcomdkaaGreatDoorV02
import Derived.Test.YtpdjhlcbcomdkaaGreatDoorV03
import Derived.Test.YtpdjhlcbcomdkaaGreatDoorV09
import Derived.Test.YtpdjhlcbcomdkaaGreatDoorV10
import Derived.Test.YtpdjhlcbcomdkaaGreatDoorV11
import Derived.Test.YtpdjhlcbcomdkaaGreatDoorV12
import Derived.Test.YtpdjhlcbcomdkaaGreatDoorV21
set_option linter.unusedVariables false
set_option linter.unusedSimpArgs false
set_option linter.unusedSimpArgs false
namespace Go.Proofs.By
open Go.RowKit Go.Proofs.Heap Go.Proofs
open Go.Proofs.Rm (below_drewN own_le)
theorem VSent_nil (w:World):Calls Tryz.prog 56 #[.pointer none] w fun e w'=>e = .returned (.slice none 0 0)∧w=w':=by
 go_enter Tryz.func56,Tryz.ntmps56
 go_wp2_with fail
 go_ret
 exact ⟨rfl,rfl⟩
section
variable {w:World} {V k:Nat} {ov av mv lv:Value} {L:List OpB} {x:Life} {wv cv qv:Value}
set_option maxRecDepth 100000 in
set_option maxHeartbeats 8000000 in
theorem VSent_any (h:VB w V k ov av mv lv L x wv cv qv) (hr:VRows w wv cv qv (statesV L x (L.length+1))) (hL:L.length≤256) :
  Calls Tryz.prog 56 #[.pointer (some ⟨V,0,none⟩)] w fun e w'=>(∃ ev,e = .returned ev∧w'.ownsRow w.heap.size 70 6 ev (sentTo L x L.length).out.length ((sentTo L x L.length).out.flatMap emiCells))∧Below w.heap.size w w':=by
 have HVB:=Lib.hid h
 have HVR:=Lib.hid hr
 obtain ⟨oa,oc,hov,-,-⟩:=h.ops.form
 subst hov
 have HS0:Hid (SO w (w.alloc (.cells #[.slice none 0 0,.int .i64 0,.int .u32 0,.int .u16 0] 162)) w.heap.size (sentTo L x 0) (.slice none 0 0) (.slice none 0 0)):=⟨below_alloc w _,heap_new w _,World.ownsRow_nil _ _ _ _,Nat.le_refl _⟩
 have hVl:=hp_lt h.view
 have hkl:=hp_lt h.book
 have v0:w.cell? ⟨V,0,none⟩=some (.pointer (some ⟨k,0,none⟩)):=by rw [cell_of h.view 0];rfl
 have b0:w.cell? ⟨k,0,none⟩=some (.slice oa L.length oc):=by rw [cell_of h.book 0];rfl
 clear h hr
 go_enter Tryz.func56,Tryz.ntmps56
 go_wp2_with fail
 clear v0 b0 hVl hkl
 generalize w.alloc (.cells #[.slice none 0 0,.int .i64 0,.int .u32 0,.int .u16 0] 162)=w0 at *
 go_loopw [15] (fun s15 w'=>∃ (j:Nat) (uv:Value),j≤L.length∧s15 = .int .i64 (j:Int)∧SO w w' w.heap.size (sentTo L x j) uv uv) (fun s15 _=>L.length-(intOf s15).toNat)
 case atStart=>exact ⟨0,_,by omega,rfl,HS0.out⟩
 case round=>
  obtain ⟨j,uv,hj,rfl,hso⟩:=hrel
  clear HS0
  have HSO:=Lib.hid hso
  clear hso
  by_cases hjl:j<L.length
  ·have hjI:(j:Int)<(L.length:Int):=Int.ofNat_lt.2 hjl
   have HOK:=Lib.hid (sentTo_ok L x j)
   have HST:Hid (sentTo L x (j+1)=sentStep L x (stateV L x j) (sentTo L x j) j):=rfl
   have HVA:=Lib.hid (HVR.out.at (statesV_at L x (Nat.lt_succ_of_lt hjl)))
   generalize sentTo L x j=z at *
   generalize stateV L x j=s at *
   have hzl:z.out.length≤1000:=by have:=HOK.out.len;omega
   have HEV:Hid (∀ e∈z.out,0≤e.event∧e.event<L.length):=fun e he=>by have:=HOK.out.ev e he;omega
   obtain ⟨ua,uc,rfl⟩:=Row.form (Row.of_owns HSO.out.own)
   obtain ⟨gq,oq,mq,cq,hqv,hjq,hqc⟩:=HVA.out.quiet
   have HQC:=Lib.hid hqc
   have hjqI:(j:Int)<(mq:Int):=Int.ofNat_lt.2 hjq
   subst hqv
   have CP:=Lib.hid (Vpacket_any (HVB.out.below HSO.out.bel) hjl)
   have HX0:Hid (sentStep L x s z j=if packetAt L x j && !s.quiet && (opensV s (takenAt L j).dsc || goesV L s z.out j) then sendV L x s z j else z):=rfl
   generalize hS:sentStep L x s z j=ZZ at *
   have HSS:=Lib.hid hS
   clear hS hqc
   generalize hop:opensV s (takenAt L j).dsc=op at *
   have HOP:=Lib.hid hop
   generalize hgo:goesV L s z.out j=go at *
   have HGO:=Lib.hid hgo
   generalize packetAt L x j=pk at *
   generalize s.quiet=qt at *
   clear hop hgo
   cases pk with
   | false=>
    have HX:Hid (ZZ=z):=by show _=_;rw [HX0.out];rfl
    go_wp2_with (go_at_call 88;refine CP.out.mono ?_;rintro e w2 ⟨rfl,hb2⟩;have HS2:=Lib.hid (HSO.out.below hb2);have q7:w2.cell? ⟨V,7,none⟩=some (.slice (some ⟨gq,oq,none⟩) mq cq):=(by rw [cell_of (HVB.out.below HS2.out.bel).view 7];rfl);have qc:w2.cell? ⟨gq,oq+j,none⟩=some (.bool qt):=cell_old HQC.out HS2.out.bel;have CN:=Lib.hid (Vopens_any (HVB.out.below HS2.out.bel) hjl (HVA.out.below HS2.out.bel));rw [HOP.out] at CN;clear hb2)
    go_roundw
    case rel=>exact ⟨j+1,_,by omega,by go_num,by rw [HST.out,HX.out];exact HS2.out⟩
    case measure=>simp [intOf];omega
   | true=>
   cases qt with
   | true=>
    have HX:Hid (ZZ=z):=by show _=_;rw [HX0.out];rfl
    go_wp2_with (go_at_call 88;refine CP.out.mono ?_;rintro e w2 ⟨rfl,hb2⟩;have HS2:=Lib.hid (HSO.out.below hb2);have q7:w2.cell? ⟨V,7,none⟩=some (.slice (some ⟨gq,oq,none⟩) mq cq):=(by rw [cell_of (HVB.out.below HS2.out.bel).view 7];rfl);have qc:w2.cell? ⟨gq,oq+j,none⟩=some (.bool true):=cell_old HQC.out HS2.out.bel;have CN:=Lib.hid (Vopens_any (HVB.out.below HS2.out.bel) hjl (HVA.out.below HS2.out.bel));rw [HOP.out] at CN;clear hb2)
    go_roundw
    case rel=>exact ⟨j+1,_,by omega,by go_num,by rw [HST.out,HX.out];exact HS2.out⟩
    case measure=>simp [intOf];omega
   | false=>
   cases op with
   | true=>
    have HX:Hid (ZZ=sendV L x s z j):=by show _=_;rw [HX0.out];rfl
    go_wp2_with (first|(go_at_call 88;refine CP.out.mono ?_;rintro e w2 ⟨rfl,hb2⟩;have HS2:=Lib.hid (HSO.out.below hb2);have q7:w2.cell? ⟨V,7,none⟩=some (.slice (some ⟨gq,oq,none⟩) mq cq):=(by rw [cell_of (HVB.out.below HS2.out.bel).view 7];rfl);have qc:w2.cell? ⟨gq,oq+j,none⟩=some (.bool false):=cell_old HQC.out HS2.out.bel;have CN:=Lib.hid (Vopens_any (HVB.out.below HS2.out.bel) hjl (HVA.out.below HS2.out.bel));rw [HOP.out] at CN;clear hb2)|(go_at_call 89;refine CN.out.mono ?_;rintro e w3 ⟨rfl,hb3⟩;have HS3:=Lib.hid (HS2.out.below hb3);obtain ⟨e0,e1,e2,e3⟩:=HS3.out.facts;have CG:=Lib.hid (Vgoes_any (HVB.out.below HS3.out.bel) hjl (HVA.out.below HS3.out.bel) ua uc z.out z.opn z.begin z.starts (Row.of_owns HS3.out.own) HEV.out hzl);rw [HGO.out] at CG;have CSE:=Lib.hid (Vsend_any HVB.out hjl hL HVA.out w.heap.size z _ w3 HS3.out HOK.out);clear hb3)|(go_at_call 91;refine CSE.out.mono ?_;rintro e w5 ⟨rfl,uv',hso'⟩;have HS5:=Lib.hid hso';clear hso'))
    go_roundw
    case rel=>exact ⟨j+1,_,by omega,by go_num,by rw [HST.out,HX.out];exact HS5.out⟩
    case measure=>simp [intOf];omega
   | false=>
   cases go with
   | true=>
    have HX:Hid (ZZ=sendV L x s z j):=by show _=_;rw [HX0.out];rfl
    go_wp2_with (first|(go_at_call 88;refine CP.out.mono ?_;rintro e w2 ⟨rfl,hb2⟩;have HS2:=Lib.hid (HSO.out.below hb2);have q7:w2.cell? ⟨V,7,none⟩=some (.slice (some ⟨gq,oq,none⟩) mq cq):=(by rw [cell_of (HVB.out.below HS2.out.bel).view 7];rfl);have qc:w2.cell? ⟨gq,oq+j,none⟩=some (.bool false):=cell_old HQC.out HS2.out.bel;have CN:=Lib.hid (Vopens_any (HVB.out.below HS2.out.bel) hjl (HVA.out.below HS2.out.bel));rw [HOP.out] at CN;clear hb2)|(go_at_call 89;refine CN.out.mono ?_;rintro e w3 ⟨rfl,hb3⟩;have HS3:=Lib.hid (HS2.out.below hb3);obtain ⟨e0,e1,e2,e3⟩:=HS3.out.facts;have CG:=Lib.hid (Vgoes_any (HVB.out.below HS3.out.bel) hjl (HVA.out.below HS3.out.bel) ua uc z.out z.opn z.begin z.starts (Row.of_owns HS3.out.own) HEV.out hzl);rw [HGO.out] at CG;have CSE:=Lib.hid (Vsend_any HVB.out hjl hL HVA.out w.heap.size z _ w3 HS3.out HOK.out);clear hb3)|(go_at_call 90;refine CG.out.mono ?_;rintro e w4 ⟨rfl,hb4⟩;have HS4:=Lib.hid (HS3.out.below hb4);clear CSE;have CSE:=Lib.hid (Vsend_any HVB.out hjl hL HVA.out w.heap.size z _ w4 HS4.out HOK.out);clear hb4)|(go_at_call 91;refine CSE.out.mono ?_;rintro e w5 ⟨rfl,uv',hso'⟩;have HS5:=Lib.hid hso';clear hso'))
    go_roundw
    case rel=>exact ⟨j+1,_,by omega,by go_num,by rw [HST.out,HX.out];exact HS5.out⟩
    case measure=>simp [intOf];omega
   | false=>
    have HX:Hid (ZZ=z):=by show _=_;rw [HX0.out];rfl
    go_wp2_with (first|(go_at_call 88;refine CP.out.mono ?_;rintro e w2 ⟨rfl,hb2⟩;have HS2:=Lib.hid (HSO.out.below hb2);have q7:w2.cell? ⟨V,7,none⟩=some (.slice (some ⟨gq,oq,none⟩) mq cq):=(by rw [cell_of (HVB.out.below HS2.out.bel).view 7];rfl);have qc:w2.cell? ⟨gq,oq+j,none⟩=some (.bool false):=cell_old HQC.out HS2.out.bel;have CN:=Lib.hid (Vopens_any (HVB.out.below HS2.out.bel) hjl (HVA.out.below HS2.out.bel));rw [HOP.out] at CN;clear hb2)|(go_at_call 89;refine CN.out.mono ?_;rintro e w3 ⟨rfl,hb3⟩;have HS3:=Lib.hid (HS2.out.below hb3);obtain ⟨e0,e1,e2,e3⟩:=HS3.out.facts;have CG:=Lib.hid (Vgoes_any (HVB.out.below HS3.out.bel) hjl (HVA.out.below HS3.out.bel) ua uc z.out z.opn z.begin z.starts (Row.of_owns HS3.out.own) HEV.out hzl);rw [HGO.out] at CG;have CSE:=Lib.hid (Vsend_any HVB.out hjl hL HVA.out w.heap.size z _ w3 HS3.out HOK.out);clear hb3)|(go_at_call 90;refine CG.out.mono ?_;rintro e w4 ⟨rfl,hb4⟩;have HS4:=Lib.hid (HS3.out.below hb4);clear CSE;have CSE:=Lib.hid (Vsend_any HVB.out hjl hL HVA.out w.heap.size z _ w4 HS4.out HOK.out);clear hb4))
    go_roundw
    case rel=>exact ⟨j+1,_,by omega,by go_num,by rw [HST.out,HX.out];exact HS4.out⟩
    case measure=>simp [intOf];omega
  ·have hjj:j=L.length:=by omega
   subst hjj
   obtain ⟨ua,uc,rfl⟩:=Row.form (Row.of_owns HSO.out.own)
   obtain ⟨u0,u1,u2,u3⟩:=HSO.out.facts
   clear hjl
   go_wp2_with fail
   go_ret
   exact ⟨⟨_,rfl,HSO.out.own⟩,HSO.out.bel⟩
end
end Go.Proofs.By
set_option linter.unusedSimpArgs false
namespace Go.Proofs.By
open Go.RowKit Go.Proofs.Heap Go.Proofs
open Go.Proofs.Lab (Tabs)
open Go.Proofs.Mem
theorem RAdmits_any (v:Value) (L:List OpB) (w:World) (hT:Tabs w) (h:OpBsR w v L) (hL:L.length≤256) :
  Calls Tryz.prog 24 #[v] w fun e w'=>(∃ av,e = .returned av∧Row w' 35 av L.length ((admsTo L L.length).flatMap admC4))∧Below w.heap.size w w':=by
 exact Yx71
theorem owns_mono {w:World} {b b':Nat} {e:TypeId} {size:Nat} {v:Value} {n:Nat} {xs:List Value} (h:w.ownsRow b e size v n xs) (hb:b'≤b):w.ownsRow b' e size v n xs:=by
 obtain ⟨h1,h2⟩:=h
 refine ⟨h1,?_⟩
 rcases h2 with h2|⟨g,cap,cur,hv,hg,r⟩
 ·exact Or.inl h2
 ·exact Or.inr ⟨g,cap,cur,hv,Nat.le_trans hb hg,r⟩
def sentOf (L:List OpB) (x:Life):List Emi:=if x∈livesTo L L.length L.length then (sentTo L x L.length).out else []
set_option maxHeartbeats 2000000 in
theorem RSentO_any (v:Value) (L:List OpB) (x:Life) (w:World) (hT:Tabs w) (h:OpBsR w v L) (hL:L.length≤256) :
  Calls Tryz.prog 29 #[v,.agg (lifeCells x).toArray] w fun e w'=>(∃ ev,e = .returned ev∧w'.ownsRow w.heap.size 70 6 ev (sentOf L x).length ((sentOf L x).flatMap emiCells))∧Below w.heap.size w w':=by
 have HZ0:Hid (Below w.heap.size w (w.alloc (.cells (lifeCells x).toArray 59))):=below_alloc w _
 have hz:(w.alloc (.cells (lifeCells x).toArray 59)).heap[w.heap.size]?=some (.cells (lifeCells x).toArray 59 (0,0)):=heap_new w _
 by_cases hx:x∈livesTo L L.length L.length
 ·have CV:=Lib.hid (Rview_some v L x (w.alloc (.cells (lifeCells x).toArray 59)) (Utf8Tabs_below hT HZ0.out) (h.below HZ0.out) hL hx)
  have HX:Hid (sentOf L x=(sentTo L x L.length).out):=by show _=_;unfold sentOf;rw [if_pos hx]
  have HL:=Lib.hid hL
  generalize sentOf L x=X at *
  clear hx hT h hL
  obtain ⟨p,sr,b,f⟩:=x
  dsimp only [lifeCells] at CV HZ0 hz ⊢
  go_enter Tryz.func29,Tryz.ntmps29
  go_wp2_with (first|(with_reducible refine load_at 59 (.tmp 3) rfl ?_;refine load_rowTo2 rfl 59 (.tmp 3) rfl w.heap.size rfl 59 #[.int .i64 p,.int .i64 sr,.int .i64 b,.int .i64 f] (0,0) _ hz Tryz.underlying59 rfl Yo3 ?_)|(go_at_call 55;refine CV.out.mono ?_;rintro e w2 ⟨⟨V,k,ov,av,mv,lv,wv,cv,qv,rfl,hvb,hvr⟩,hb2⟩;have HB2:=Lib.hid (HZ0.out.trans (hb2.mono HZ0.out.size));have CW:=Lib.hid (VSent_any hvb hvr HL.out);clear hvb hvr hb2)|(go_at_call 56;refine CW.out.mono ?_;rintro e w3 ⟨⟨ev,rfl,hev⟩,hb3⟩;have HEV:=Lib.hid hev;have HB3:=Lib.hid (HB2.out.trans (hb3.mono HB2.out.size));clear hev hb3))
  go_ret
  exact ⟨⟨ev,rfl,by rw [HX.out];exact owns_mono HEV.out HB2.out.size⟩,HB3.out⟩
 ·have CV:=Lib.hid (Rview_none v L x (w.alloc (.cells (lifeCells x).toArray 59)) (Utf8Tabs_below hT HZ0.out) (h.below HZ0.out) hL hx)
  have HX:Hid (sentOf L x=[]):=by show _=_;unfold sentOf;rw [if_neg hx]
  generalize sentOf L x=X at *
  clear hx hT h hL
  obtain ⟨p,sr,b,f⟩:=x
  dsimp only [lifeCells] at CV HZ0 hz ⊢
  go_enter Tryz.func29,Tryz.ntmps29
  go_wp2_with (first|(with_reducible refine load_at 59 (.tmp 3) rfl ?_;refine load_rowTo2 rfl 59 (.tmp 3) rfl w.heap.size rfl 59 #[.int .i64 p,.int .i64 sr,.int .i64 b,.int .i64 f] (0,0) _ hz Tryz.underlying59 rfl Yo3 ?_)|(go_at_call 55;refine CV.out.mono ?_;rintro e w2 ⟨rfl,hb2⟩;have HB2:=Lib.hid (HZ0.out.trans (hb2.mono HZ0.out.size));have CW:=Lib.hid (VSent_nil w2);clear hb2)|(go_at_call 56;refine CW.out.mono ?_;rintro e w' ⟨rfl,rfl⟩))
  go_ret
  exact ⟨⟨_,rfl,by rw [HX.out];exact World.ownsRow_nil _ _ _ _⟩,HB2.out⟩
theorem RSent_any (v:Value) (L:List OpB) (x:Life) (w:World) (hT:Tabs w) (h:OpBsR w v L) (hL:L.length≤256) :
  Calls Tryz.prog 29 #[v,.agg (lifeCells x).toArray] w fun e w'=>(∃ ev,e = .returned ev∧Row w' 70 ev (sentOf L x).length ((sentOf L x).flatMap emiCells))∧Below w.heap.size w w':=
 (RSentO_any v L x w hT h hL).mono fun e w' ⟨⟨ev,h1,h2⟩,h3⟩=>⟨⟨ev,h1,Row.of_owns h2⟩,h3⟩
end Go.Proofs.By
namespace Go.Proofs.By
def bX:Life:=⟨2,3,3,5⟩
theorem bAdms (h:Nat):admsTo (bOps h) 5=[⟨2,0,1,0⟩,⟨2,0,2,0⟩,⟨2,0,3,0⟩,⟨2,0,4,0⟩,⟨1,3,4,0⟩]:=by kernel_rfl
theorem bLives (h:Nat):livesTo (bOps h) ((5:Nat):Int) 5=[bX]:=by kernel_rfl
end Go.Proofs.By
set_option linter.unusedSimpArgs false
namespace Go.Proofs.By
open Go.RowKit Go.Proofs.Heap Go.Proofs
open Go.Proofs.Rm (opvCells u32s)
open Go.Proofs.Lab (Tabs)
open Go.Proofs.Mem
theorem packet21_any (w:World):Calls Tryz.prog 86 #[.int .u8 7,.int .u8 10] w fun e w'=>e = .returned (.slice (some ⟨w.heap.size,0,none⟩) 17 17)∧w'=w.alloc (.cells (bys pk7).toArray 5):=by
 go_enter Tryz.func86,Tryz.ntmps86
 go_wp2
 go_ret
 exact ⟨rfl,rfl⟩
theorem begin21_any (w:World):Calls Tryz.prog 54 #[] w fun e w'=>e = .returned (.slice (some ⟨w.heap.size+2,0,none⟩) 5 5)∧OpBsT w' (.slice (some ⟨w.heap.size+2,0,none⟩) 5 5) (bOps w.heap.size)∧Below w.heap.size w w':=by
 have C:=Lib.hid packet21_any
 go_enter Tryz.func54,Tryz.ntmps54
 go_wp2_with (go_at_call 86;refine (C.out _).mono ?_;rintro e w2 ⟨rfl,rfl⟩)
 exact Yx33
theorem opbs_r {w:World} {v:Value} {L:List OpB} (h:OpBsT w v L):OpBsR w v L:=⟨h.row.r,fun y hy=>⟨(h.each y hy).1.r,(h.each y hy).2.1.r,(h.each y hy).2.2⟩⟩
theorem row_cells {w:World} {e:TypeId} {a:Option Addr} {n c:Nat} {xs:List Value} (h:Row w e (.slice a n c) n xs) (hl:0<xs.length):∃ g o,a=some ⟨g,o,none⟩∧w.rangeAt g o xs:=by
 obtain ⟨g,o,cap,h1,_,_,_,h5⟩:=Row.open h hl
 injection h1 with e1 _ _
 exact ⟨g,o,e1,fun m v hm=>(h5 m (List.getElem?_eq_some_iff.1 hm).1).trans hm⟩
theorem few21_any (v:Value) (L:List OpB) (w:World) (h:OpBsR w v L):Calls Tryz.prog 26 #[v] w fun e w'=>(∃ v',e = .returned v'∧OpBsR w' v' (L.take 60))∧w=w':=by
 obtain ⟨va,vc,rfl,hvc,hmx⟩:=h.form
 obtain ⟨K,hKd⟩:∃ K,K=min L.length 60:=⟨_,rfl⟩
 have hK1:K≤L.length:=by omega
 have hKm:min (L.length:Int) 60=(K:Int):=by omega
 obtain ⟨vs,hsl,-,hslR⟩:=slice_to (P:=Tryz.prog) elemOp va L.length vc K (by omega)
 have HO:Hid (OpBsR w (.slice vs K vc) (L.take 60)):=by
  have h2:=h.take hK1 hslR
  have e:L.take K=L.take 60:=by
   rcases Nat.le_total L.length 60 with h3|h3
   ·rw [hKd,Nat.min_eq_left h3,List.take_length,List.take_of_length_le h3]
   ·rw [hKd,Nat.min_eq_right h3]
  rwa [e] at h2
 clear h hslR hKd
 go_enter Tryz.func26,Tryz.ntmps26
 go_wp2
 go_ret
 exact ⟨⟨_,rfl,HO.out⟩,rfl⟩
theorem b21sent (h:Nat):sentOf (bOps h) bX=[⟨4,0,0,outOf 2 3,0,true⟩]:=by kernel_rfl
theorem b21cur5 (h:Nat):curOf (bOps h) bX 5=0:=by kernel_rfl
theorem b21cur4 (h:Nat):curOf (bOps h) bX 4 = -1:=by kernel_rfl
theorem b21quiet (h:Nat):quietOf (bOps h) noLife 1=true:=by kernel_rfl
set_option maxRecDepth 100000 in
set_option maxHeartbeats 8000000 in
theorem shown21_any (w:World) (hT:Tabs w):Calls Tryz.prog 25 #[] w fun e w'=>e = .returned (.bool true)∧Below w.heap.size w w':=by
 have CB:=Lib.hid (begin21_any w)
 have HT:Hid (∀ w',Below w.heap.size w w'→Tabs w'):=fun w' h=>Utf8Tabs_below hT h
 have CO:=Lib.hid (fun w'=>sOut_any 2 3 w')
 clear hT
 go_enter Tryz.func25,Tryz.ntmps25
 go_upto_region 2 with (go_at_call 54;refine CB.out.mono ?_;rintro e w1 ⟨rfl,ho,hb1⟩;have HO:=Lib.hid (opbs_r ho);have HB0:=Lib.hid hb1;clear ho hb1)
 generalize (w.heap.size+2)=H2 at *
 have CA:=Lib.hid (RAdmits_any _ _ w1 (HT.out _ HB0.out) HO.out (by show 5≤256;decide))
 have CL:=Lib.hid (fun (w':World) (hb:Below w1.heap.size w1 w')=>RLives_any _ _ w' (HT.out _ (HB0.out.trans (hb.mono HB0.out.size))) (HO.out.below hb) (by show 5≤256;decide))
 have CS:=Lib.hid (fun (w':World) (hb:Below w1.heap.size w1 w')=>RSent_any _ _ bX w' (HT.out _ (HB0.out.trans (hb.mono HB0.out.size))) (HO.out.below hb) (by show 5≤256;decide))
 have C5':=(fun (at':Int) (w':World) (hb:Below w1.heap.size w1 w')=>RCur_any _ _ bX at' w' (HT.out _ (HB0.out.trans (hb.mono HB0.out.size))) (HO.out.below hb) (by show 5≤256;decide))
 have CQ':=(fun (w':World) (hb:Below w1.heap.size w1 w')=>RQuiet_any _ _ noLife 1 w' (HT.out _ (HB0.out.trans (hb.mono HB0.out.size))) (HO.out.below hb) (by show 5≤256;decide))
 have hlen:(bOps w.heap.size).length=5:=rfl
 rw [hlen] at CA CL
 rw [bAdms] at CA
 simp only [bLives] at CL
 have hsent:=b21sent w.heap.size
 have hc5:=b21cur5 w.heap.size
 have hc4:=b21cur4 w.heap.size
 have hq:=b21quiet w.heap.size
 simp only [hsent] at CS
 have C5:=Lib.hid (C5' 5)
 have C4:=Lib.hid (C5' 4)
 have CQ:=Lib.hid CQ'
 rw [hc5] at C5
 rw [hc4] at C4
 rw [hq] at CQ
 clear C5' CQ' hc5 hc4 hq hsent hlen HT CB HO
 dsimp only [lifeCells,bX,noLife] at CS C5 C4 CQ
 generalize outOf 2 3=OU at *
 go_upto_region 4 with (first|(go_at_call 24;refine CA.out.mono ?_;rintro e w2 ⟨⟨av,rfl,ha⟩,hb2⟩;obtain ⟨aa,ac,hav⟩:=Row.form ha;subst hav;have HA:=Lib.hid ha;have HB2:=Lib.hid hb2;clear ha hb2)|(go_at_call 27;refine (CL.out _ HB2.out).mono ?_;rintro e w3 ⟨⟨lv,rfl,hl⟩,hb3⟩;obtain ⟨la,lc,hlv⟩:=Row.form hl;subst hlv;have HL:=Lib.hid hl;have HB3:=Lib.hid (HB2.out.trans (hb3.mono HB2.out.size));have HA3:=Lib.hid (Row.below HA.out hb3);clear hl hb3))
 obtain ⟨ga,oa,hga,hra⟩:=row_cells HA3.out (by decide)
 obtain ⟨gx,ox,hgx,hrx⟩:=row_cells HL.out (by decide)
 subst hga
 subst hgx
 have a16:w3.cell? ⟨ga,oa+16,none⟩=some (.int .i64 1):=hra 16 _ rfl
 have a18:w3.cell? ⟨ga,oa+16+2,none⟩=some (.int .i64 4):=hra 18 _ rfl
 have x0:w3.cell? ⟨gx,ox,none⟩=some (.int .i64 2):=hrx 0 _ rfl
 have x1:w3.cell? ⟨gx,ox+1,none⟩=some (.int .i64 3):=hrx 1 _ rfl
 have x2:w3.cell? ⟨gx,ox+2,none⟩=some (.int .i64 3):=hrx 2 _ rfl
 have x3:w3.cell? ⟨gx,ox+3,none⟩=some (.int .i64 5):=hrx 3 _ rfl
 have X0:=Lib.hid x0
 have X1:=Lib.hid x1
 have X2:=Lib.hid x2
 have X3:=Lib.hid x3
 clear hra hrx
 go_upto_region 7 with (go_at_call 29;refine (CS.out _ HB3.out).mono ?_;rintro e w6 ⟨⟨ev,rfl,he⟩,hb6⟩;obtain ⟨ea,ec,hev⟩:=Row.form he;subst hev;have HE:=Lib.hid he;have HB36:=Lib.hid hb6;have HB6:=Lib.hid (HB3.out.trans (hb6.mono HB3.out.size));clear he hb6)
 obtain ⟨ge,oe,hge,hre⟩:=row_cells HE.out (by show 0<6;decide)
 subst hge
 have HRE:=Lib.hid hre
 clear a16 a18 x0 x1 x2 x3 hre
 have KEEP:Hid (∀ w',Below w6.heap.size w6 w'→w'.cell? ⟨gx,ox,none⟩=some (.int .i64 2)∧w'.cell? ⟨gx,ox+1,none⟩=some (.int .i64 3)∧w'.cell? ⟨gx,ox+2,none⟩=some (.int .i64 3)∧w'.cell? ⟨gx,ox+3,none⟩=some (.int .i64 5)∧w'.cell? ⟨ge,oe,none⟩=some (.int .i64 4)∧w'.cell? ⟨ge,oe+1,none⟩=some (.int .u16 0)∧w'.cell? ⟨ge,oe+2,none⟩=some (.int .u32 0)∧w'.cell? ⟨ge,oe+3,none⟩=some (.int .u32 OU)∧w'.cell? ⟨ge,oe+4,none⟩=some (.int .u16 0)∧w'.cell? ⟨ge,oe+5,none⟩=some (.bool true)):=fun w' hb=>
  have hb3:=HB36.out.trans (hb.mono HB36.out.size)
  ⟨cell_old X0.out hb3,cell_old X1.out hb3,cell_old X2.out hb3,cell_old X3.out hb3,cell_old (HRE.out 0 _ rfl) hb,cell_old (HRE.out 1 _ rfl) hb,cell_old (HRE.out 2 _ rfl) hb,cell_old (HRE.out 3 _ rfl) hb,cell_old (HRE.out 4 _ rfl) hb,cell_old (HRE.out 5 _ rfl) hb⟩
 refine wp_region_noPanic ?_
 refine AnyT.region_start (d:=51) (S:=(fun w'=>w'.cell? ⟨gx,ox,none⟩=some (.int .i64 2)∧w'.cell? ⟨gx,ox+1,none⟩=some (.int .i64 3)∧w'.cell? ⟨gx,ox+2,none⟩=some (.int .i64 3)∧w'.cell? ⟨gx,ox+3,none⟩=some (.int .i64 5)∧w'.cell? ⟨ge,oe,none⟩=some (.int .i64 4)∧w'.cell? ⟨ge,oe+1,none⟩=some (.int .u16 0)∧w'.cell? ⟨ge,oe+2,none⟩=some (.int .u32 0)∧w'.cell? ⟨ge,oe+3,none⟩=some (.int .u32 OU)∧w'.cell? ⟨ge,oe+4,none⟩=some (.int .u16 0)∧w'.cell? ⟨ge,oe+5,none⟩=some (.bool true))) Yo3 ?_ (fun _=>?_)
 ·(try dsimp only)
  exact KEEP.out _ (Below.refl _ _).drew
 refine YP 0 (h:=YP 1 (h:=YP 3 (h:=YQ 2 [48,45,40,37,32,28,23,17,10,5,4] (h:=YP 4 (h:=YP 5 (h:=YP 6 (h:=YP 7 (h:=YP 8 (h:=YP 9 (h:=YP 10 (h:=YP 11 (h:=YP 12 (h:=YP 13 (h:=YQ 14 [48,45,40,37,32,28,23,17,16,15] (h:=YP 15 (h:=YP 16 (h:=YP 17 (h:=YP 18 (h:=YP 19 (h:=YP 20 (h:=YQ 21 [48,45,40,37,32,28,23,22] (h:=YP 22 (h:=YP 23 (h:=YP 24 (h:=YP 25 (h:=YP 26 (h:=YQ 27 [48,45,40,37,32,31,30] (h:=?_))))))))))))))))))))))))))))
 refine YR 28 (h:=fun K hK=>?_)
 go_simp
 refine (CO.out _).mono ?_
 rintro e w' ⟨rfl,rfl⟩
 go_wp2_with fail
 refine AnyT.go_on hK _ _ ?_ (fun _=>?_)
 ·(try dsimp only)
  exact KEEP.out _ Yo31
 clear hK K
 try simp only [AnyT.pt]
 refine YP 29 (h:=YP 30 (h:=YP 31 (h:=YP 32 (h:=YP 33 (h:=YP 34 (h:=YP 35 (h:=YQ 36 [48,45,40,37] (h:=?_))))))))
 refine YR 37 (h:=fun K hK=>?_)
 go_simp
 refine (C5.out _ (HB6.out.trans ((Below.refl w6.heap.size w6).drew.mono HB6.out.size))).mono ?_
 rintro e w7 ⟨rfl,hb7⟩
 have HB7:=Lib.hid ((Below.refl w6.heap.size w6).drew.trans hb7)
 clear hb7
 go_wp2_with fail
 refine AnyT.go_on hK _ _ ?_ (fun _=>?_)
 ·(try dsimp only)
  exact KEEP.out _ Yo31
 clear hK K
 try simp only [AnyT.pt]
 refine YP 38 (h:=YP 39 (h:=YP 40 (h:=YP 41 (h:=YP 42 (h:=YP 43 (h:=YQ 44 [48,45] (h:=?_)))))))
 refine YR 45 (h:=fun K hK=>?_)
 go_simp
 refine (C4.out _ (HB6.out.trans (HB7.out.mono HB6.out.size))).mono ?_
 rintro e w8 ⟨rfl,hb8⟩
 have HB8:=Lib.hid (HB7.out.trans (hb8.mono HB7.out.size))
 clear hb8
 go_wp2_with fail
 refine AnyT.go_on hK _ _ ?_ (fun _=>?_)
 ·(try dsimp only)
  exact KEEP.out _ Yo31
 clear hK K
 try simp only [AnyT.pt]
 refine YP 46 (h:=YP 47 (h:=YP 48 (h:=YP 49 (h:=YP 50 (h:=?_)))))
 refine YR 51 (h:=fun K hK=>?_)
 go_simp
 refine (CQ.out _ (HB6.out.trans (HB8.out.mono HB6.out.size))).mono ?_
 rintro e w9 ⟨rfl,hb9⟩
 have HB9:=Lib.hid (HB8.out.trans (hb9.mono HB8.out.size))
 clear hb9
 go_wp2_with fail
 refine AnyT.go_past hK _ _ Yo3 ?_
 clear hK K
 try simp only [AnyT.pt]
 refine YP 52 (h:=YP 53 (h:=?_))
 refine AnyT.till_done Yo3 ?_ _
 refine NoPanic.normal ?_
 go_wp2_with fail
 go_ret
 exact ⟨rfl,HB0.out.trans ((HB6.out.trans (HB9.out.mono HB6.out.size)).mono HB0.out.size)⟩
end Go.Proofs.By
namespace Go.Proofs.Rm
abbrev Open:=Int × Int→Bool
def key2 (t:Turn):Int × Int:=(t.peer,t.source)
def chk (S:Open) (t:Turn):Bool:=(decide (t.kind=9) || (inn t.peer 9 && inn t.source 9)) && if t.kind=1 then !S (key2 t) else if t.kind=2 then S (key2 t) else if t.kind=9 then true else S (key2 t)
theorem chk_of {S:Open} {t:Turn} {p n:Nat} (hp:t.peer=p) (hn:t.source=n) (h1:1≤p) (h2:p<9) (h3:1≤n) (h4:n<9) (h:(if t.kind=1 then !S (key2 t) else if t.kind=2 then S (key2 t) else if t.kind=9 then true else S (key2 t))=true):chk S t=true:=by
 unfold chk
 rw [h,hp,hn,(inn_iff' _ _).2 ⟨by omega,by omega⟩,(inn_iff' _ _).2 ⟨by omega,by omega⟩]
 simp
def nextS (S:Open) (t:Turn):Open:=if t.kind=1 then fun x=>decide (x=key2 t) || S x else if t.kind=2 then fun x=> !decide (x=key2 t) && S x else S
def allChk (S:Open):List Turn→Prop
 | []=>True
 | t :: l=>chk S t=true∧allChk (nextS S t) l
def Good (S:Open) (l:List Turn) (S':Open):Prop:=allChk S l∧l.foldl nextS S=S'
theorem Good.nil (S:Open):Good S [] S:=⟨trivial,rfl⟩
theorem Good.cons {S S1 S':Open} {t:Turn} {l:List Turn} (h:chk S t=true) (h1:nextS S t=S1) (hl:Good S1 l S'):Good S (t :: l) S':=by
 subst h1
 exact ⟨⟨h,hl.1⟩,hl.2⟩
theorem allChk_append:∀ (a:List Turn) (S:Open) (b:List Turn),allChk S a→allChk (a.foldl nextS S) b→allChk S (a++b)
 | [],_,_,_,h=>h
 | t :: a,S,b,h1,h2=>⟨h1.1,allChk_append a (nextS S t) b h1.2 h2⟩
theorem Good.append {S S1 S':Open} {a b:List Turn} (h1:Good S a S1) (h2:Good S1 b S'):Good S (a++b) S':=by
 obtain ⟨h1,rfl⟩:=h1
 exact ⟨allChk_append a S b h1 h2.1,by rw [List.foldl_append];exact h2.2⟩
theorem allChk_at:∀ (l:List Turn) (S:Open),allChk S l→∀ (i:Nat) (h:i<l.length),chk ((l.take i).foldl nextS S) l[i]=true
 | t :: l,S,h,0,_=>h.1
 | t :: l,S,h,i+1,hi=>allChk_at l (nextS S t) h.2 i (by simpa using hi)
theorem Good.step {S S':Open} {l:List Turn} (h:Good S l S') (i:Nat) (hi:i<l.length):chk ((l.take i).foldl nextS S) l[i]=true∧(l.take (i+1)).foldl nextS S=nextS ((l.take i).foldl nextS S) l[i]:=
 ⟨allChk_at l S h.1 i hi,by rw [List.take_succ_eq_append_getElem hi,List.foldl_append];rfl⟩
theorem good_const {S:Open}:∀ (l:List Turn),(∀ t∈l,t.kind≠1∧t.kind≠2∧(t.kind=9∨(S (key2 t)=true∧inn t.peer 9=true∧inn t.source 9=true)))→Good S l S
 | [],_=>Good.nil S
 | t :: l,h=>by
  obtain ⟨h1,h2,h3⟩:=h t (by simp)
  refine Good.cons ?_ (by unfold nextS;rw [if_neg h1,if_neg h2]) (good_const l fun x hx=>h x (by simp [hx]))
  unfold chk
  rw [if_neg h1,if_neg h2]
  rcases h3 with h9|⟨a,b,c⟩
  ·rw [if_pos h9,decide_eq_true h9];rfl
  ·rw [a,b,c]
   split <;> simp
def opens (R:Room):Open:=fun x=>hears R x.1 x.2
theorem opens_iff {R:Room} {x:Int × Int}:opens R x=true↔∃ p n:Nat,x=((p:Int),(n:Int))∧1≤p∧p<9∧1≤n∧n<9∧(R.sub n p).there=true:=by
 obtain ⟨a,b⟩:=x
 unfold opens hears
 simp only [Bool.and_eq_true,inn_iff']
 constructor
 ·rintro ⟨⟨h1,h2⟩,h3⟩
  exact ⟨a.toNat,b.toNat,by rw [Int.toNat_of_nonneg (by omega),Int.toNat_of_nonneg (by omega)],by omega,by omega,by omega,by omega,h3⟩
 ·rintro ⟨p,n,e,h1,h2,h3,h4,h5⟩
  simp only [Prod.mk.injEq] at e
  obtain ⟨rfl,rfl⟩:=e
  rw [Int.toNat_natCast,Int.toNat_natCast]
  exact ⟨⟨⟨by omega,by omega⟩,by omega,by omega⟩,h5⟩
theorem opens_at {R:Room} {p n:Nat} (h1:1≤p) (h2:p<9) (h3:1≤n) (h4:n<9):opens R ((p:Int),(n:Int))=(R.sub n p).there:=by
 show hears R p n=_
 unfold hears
 rw [(inn_iff' _ _).2 ⟨by omega,by omega⟩,(inn_iff' _ _).2 ⟨by omega,by omega⟩,Int.toNat_natCast,Int.toNat_natCast]
 simp
theorem opens_ext {R':Room} {f:Int × Int→Bool} (h:∀ p n:Nat,1≤p→p<9→1≤n→n<9→(R'.sub n p).there=f ((p:Int),(n:Int))) (h0:∀ x,f x=true→∃ p n:Nat,x=((p:Int),(n:Int))∧1≤p∧p<9∧1≤n∧n<9):opens R'=f:=by
 funext x
 rw [Bool.eq_iff_iff]
 constructor
 ·intro hx
  obtain ⟨p,n,rfl,h1,h2,h3,h4,h5⟩:=opens_iff.1 hx
  rw [←h p n h1 h2 h3 h4];exact h5
 ·intro hx
  obtain ⟨p,n,rfl,h1,h2,h3,h4⟩:=h0 x hx
  rw [opens_iff]
  exact ⟨p,n,rfl,h1,h2,h3,h4,by rw [h p n h1 h2 h3 h4];exact hx⟩
theorem opens_bd {R:Room} {x:Int × Int} (h:opens R x=true):∃ p n:Nat,x=((p:Int),(n:Int))∧1≤p∧p<9∧1≤n∧n<9:=by
 obtain ⟨p,n,e,h1,h2,h3,h4,_⟩:=opens_iff.1 h
 exact ⟨p,n,e,h1,h2,h3,h4⟩
theorem pair_eq (p q n m:Nat):decide (((p:Int),(n:Int))=((q:Int),(m:Int)))=(decide (n=m) && decide (p=q)):=by
 rw [Bool.eq_iff_iff]
 simp
 omega
theorem opens_end (R:Room) (n p:Nat):opens (R.setSub n p noSub)=fun x=> !decide (x=((p:Int),(n:Int))) && opens R x:=by
 refine opens_ext (fun q m h1 h2 h3 h4=>?_) (fun x hx=>opens_bd (Bool.and_eq_true_iff.1 hx).2)
 show _=(!decide (((q:Int),(m:Int))=((p:Int),(n:Int))) && opens R ((q:Int),(m:Int)))
 rw [pair_eq,opens_at h1 h2 h3 h4,setSub_sub]
 by_cases e:m=n∧q=p
 ·rw [if_pos e,decide_eq_true e.1,decide_eq_true e.2];rfl
 ·exact Yx143
theorem opens_begin (R:Room) {n p:Nat} (x:Sub) (hx:x.there=true) (h1:1≤p) (h2:p<9) (h3:1≤n) (h4:n<9):opens (R.setSub n p x)=fun y=>decide (y=((p:Int),(n:Int))) || opens R y:=by
 refine opens_ext (fun q m a1 a2 a3 a4=>?_) (fun y hy=>?_)
 ·show _=(decide (((q:Int),(m:Int))=((p:Int),(n:Int))) || opens R ((q:Int),(m:Int)))
  rw [pair_eq,opens_at a1 a2 a3 a4,setSub_sub]
  by_cases e:m=n∧q=p
  ·rw [if_pos e,decide_eq_true e.1,decide_eq_true e.2,hx];rfl
  ·exact Yx143
 ·rcases Bool.or_eq_true_iff.1 hy with h|h
  ·exact ⟨p,n,of_decide_eq_true h,h1,h2,h3,h4⟩
  ·exact opens_bd (R:=R) h
theorem opens_same {R R':Room} (h:∀ n p,(R'.sub n p).there=(R.sub n p).there):opens R'=opens R:=by
 funext x
 unfold opens hears
 rw [h]
theorem opens_keep (R:Room) (n p:Nat) (x:Sub) (hx:x.there=(R.sub n p).there):opens (R.setSub n p x)=opens R:=by
 refine opens_same fun m q=>?_
 rw [setSub_sub]
 split
 ·rename_i e;rw [e.1,e.2];exact hx
 ·rfl
theorem goneGo_good (n:Nat) (hn:1≤n∧n<9):∀ (l:List Nat) (R:Room),l.Nodup→(∀ p∈l,1≤p∧p<9∧(R.sub n p).there=true)→Good (opens R) (goneGo n l R).1 (opens (goneGo n l R).2)
 | [],R,_,_=>Good.nil _
 | p :: l,R,hd,hl=>by
  obtain ⟨h1,h2,h3⟩:=hl p (by simp)
  have ho:opens R ((p:Int),(n:Int))=true:=by rw [opens_at h1 h2 hn.1 hn.2];exact h3
  obtain ⟨hd1,hd2⟩:=List.nodup_cons.1 hd
  refine Good.cons (S1:=opens R) (chk_of (p:=p) (n:=n) rfl rfl h1 h2 hn.1 hn.2 ho) rfl (Good.cons (S1:=opens (R.setSub n p noSub)) (chk_of (p:=p) (n:=n) rfl rfl h1 h2 hn.1 hn.2 ho) (by rw [opens_end];rfl) (goneGo_good n hn l _ hd2 fun q hq=>?_))
  obtain ⟨a1,a2,a3⟩:=hl q (by simp [hq])
  refine ⟨a1,a2,?_⟩
  rw [setSub_sub,if_neg (fun e:n=n∧q=p=>hd1 (e.2▸hq))]
  exact a3
theorem subs_nodup (R:Room) (n:Int):(subs R n).Nodup:=List.Pairwise.filter _ List.nodup_range
theorem gone_good (R:Room) {n:Nat} (hn:1≤n∧n<9):Good (opens R) (gone R n).1 (opens (gone R n).2):=by
 have h:=goneGo_good n hn (subs R n) R (subs_nodup R n) (fun p hp=>by
  obtain ⟨h1,h2,_,_,h5⟩:=mem_subs.1 hp
  exact ⟨h1,h2,h5⟩)
 exact h
theorem leave1_good (R:Room) (hI:Inv R) (p:Nat) (hp:1≤p∧p<9):∀ k,Good (opens R) (leave1 p R k).1 (opens (leave1 p R k).2)
 | 0=>Good.nil _
 | k+1=>by
  have ih:=leave1_good R hI p hp k
  unfold leave1
  dsimp only
  split
  ·rename_i ht
   have hk:=(inv_leave1 hI p k).subAt k p ht
   refine ih.append (Good.cons ?_ ?_ (Good.nil _))
   ·refine chk_of (p:=p) (n:=k) rfl rfl hp.1 hp.2 hk.1 hk.2.1 ?_
    show opens (leave1 p R k).2 ((p:Int),(k:Int))=true
    rw [opens_at hp.1 hp.2 hk.1 hk.2.1];exact ht
   ·rw [opens_end];rfl
  ·exact ih
theorem leave2_good (R:Room) (hI:Inv R) (p:Nat):∀ k,Good (opens R) (leave2 R p k).1 (opens (leave2 R p k).2)
 | 0=>Good.nil _
 | k+1=>by
  have ih:=leave2_good R hI p k
  unfold leave2
  dsimp only
  split
  ·rename_i ht
   have hk:=hI.srcAt k (Bool.and_eq_true_iff.1 ht).1
   exact ih.append (gone_good _ ⟨hk.1,hk.2.1⟩)
  ·exact ih
theorem leave_good (R:Room) (hI:Inv R) (p:Nat) (hp:1≤p∧p<9):Good (opens R) (leave R p).1 (opens (leave R p).2):=
 (leave1_good R hI p hp 9).append (leave2_good _ (inv_leave1 hI p 9) p 9)
theorem waits_const {R:Room} {S:Open} {n p:Nat}:∀ t∈waits R p n,t.kind≠1∧t.kind≠2∧(t.kind=9∨(S (key2 t)=true∧inn t.peer 9=true∧inn t.source 9=true)):=by
 intro t ht
 unfold waits at ht
 split at ht
 ·cases ht
 ·rw [List.mem_singleton] at ht
  subst ht
  exact ⟨by simp [asks],by simp [asks],Or.inl rfl⟩
theorem mute_good (R:Room) {n:Nat} (on:Bool):Good (opens R) (mute R n on).1 (opens (mute R n on).2):=by
 have e:opens (mute R n on).2=opens R:=rfl
 rw [e]
 refine good_const _ fun t ht=>?_
 obtain ⟨p,hp,ht⟩:=List.mem_flatMap.1 ht
 obtain ⟨h1,h2,h3,h4,h5⟩:=mem_subs.1 hp
 have ho:opens R ((p:Int),(n:Int))=true:=by
  rw [←e,opens_iff]
  exact ⟨p,n,rfl,h1,h2,h3,h4,h5⟩
 have ho:opens R ((p:Int),(n:Int))=true∧inn (p:Int) 9=true∧inn (n:Int) 9=true:=⟨ho,(inn_iff' _ _).2 ⟨by omega,by omega⟩,(inn_iff' _ _).2 ⟨by omega,by omega⟩⟩
 unfold muteTurns at ht
 split at ht
 ·rw [List.mem_singleton] at ht
  subst ht
  exact ⟨by simp,by simp,Or.inr ho⟩
 ·rcases List.mem_cons.1 ht with rfl|ht
  ·exact ⟨by simp,by simp,Or.inr ho⟩
  ·exact waits_const t ht
theorem turns_good {R:Room} {o:Op} (hI:Inv R) (ok:Ok R o) (sv:Value):Good (opens R) (turns R o sv).1 (opens (turns R o sv).2):=by
 obtain ⟨p,hp⟩:=Int.eq_ofNat_of_zero_le (show 0≤o.peer by have:=ok.peer;omega)
 have hp1:1≤p∧p<9:=by have:=ok.peer;omega
 have ep:o.peer.toNat=p:=by rw [hp];rfl
 unfold turns
 dsimp only
 by_cases k2:o.kind=2
 ·rw [if_pos k2];exact Good.nil _
 rw [if_neg k2]
 by_cases k3:o.kind=3
 ·rw [if_pos k3,ep];exact leave_good R hI p hp1
 rw [if_neg k3]
 have k4':4≤o.kind:=by have:=ok.kind;omega
 obtain ⟨n,hn⟩:=Int.eq_ofNat_of_zero_le (show 0≤o.source by have:=ok.src k4';omega)
 have hn1:1≤n∧n<9:=by have:=ok.src k4';omega
 have en:o.source.toNat=n:=by rw [hn];rfl
 have hip:inn o.peer 9=true:=(inn_iff' _ _).2 ⟨by omega,by omega⟩
 have hin:inn o.source 9=true:=(inn_iff' _ _).2 ⟨by omega,by omega⟩
 rw [ep,en]
 by_cases k4:o.kind=4
 ·rw [if_pos k4];exact Good.nil _
 rw [if_neg k4]
 have k5':5≤o.kind:=by omega
 by_cases k5:o.kind=5
 ·rw [if_pos k5];exact gone_good R hn1
 rw [if_neg k5]
 by_cases k6:o.kind=6
 ·rw [if_pos k6]
  have hs:=(about_sub (ok.abt k5') k6).2.1
  rw [ep,en] at hs
  have e1:=opens_begin R (n:=n) (p:=p) ⟨true,false,o.layer⟩ rfl hp1.1 hp1.2 hn1.1 hn1.2
  unfold begin
  dsimp only
  rw [ep,en]
  refine Good.cons (S1:=opens (R.setSub n p ⟨true,false,o.layer⟩)) ?_ ?_ (good_const _ fun t ht=>?_)
  ·refine chk_of (p:=p) (n:=n) hp hn hp1.1 hp1.2 hn1.1 hn1.2 ?_
   show (!opens R (o.peer,o.source))=true
   rw [hp,hn,opens_at hp1.1 hp1.2 hn1.1 hn1.2,hs];rfl
  ·rw [e1]
   unfold nextS key2
   rw [if_pos rfl]
   dsimp only
   rw [hp,hn]
  ·split at ht
   ·rw [List.mem_singleton] at ht
    subst ht
    refine ⟨by simp,by simp,Or.inr ⟨?_,hip,hin⟩⟩
    show opens _ (o.peer,o.source)=true
    rw [hp,hn,opens_at hp1.1 hp1.2 hn1.1 hn1.2,setSub_sub,if_pos ⟨rfl,rfl⟩]
   ·rw [List.mem_singleton] at ht
    subst ht
    exact ⟨by simp [asks],by simp [asks],Or.inl rfl⟩
 rw [if_neg k6]
 by_cases k7:o.kind=7
 ·rw [if_pos k7]
  have hs:=(about_hear (ok.abt k5') (Or.inl k7)).1
  rw [ep,en] at hs
  refine Good.cons ?_ ?_ (Good.nil _)
  ·refine chk_of (p:=p) (n:=n) hp hn hp1.1 hp1.2 hn1.1 hn1.2 ?_
   show opens R (o.peer,o.source)=true
   rw [hp,hn,opens_at hp1.1 hp1.2 hn1.1 hn1.2];exact hs
  ·rw [opens_end]
   unfold nextS key2
   rw [if_neg (show ¬(2:Int)=1 by decide),if_pos rfl]
   dsimp only
   rw [hp,hn]
 rw [if_neg k7]
 by_cases k8:o.kind=8
 ·rw [if_pos k8];exact mute_good R true
 rw [if_neg k8]
 by_cases k9:o.kind=9
 ·rw [if_pos k9];exact mute_good R false
 rw [if_neg k9]
 have hs:=(about_hear (ok.abt k5') (Or.inr (by omega))).1
 rw [ep,en] at hs
 have ho:opens R (o.peer,o.source)=true∧inn o.peer 9=true∧inn o.source 9=true:=⟨by rw [hp,hn,opens_at hp1.1 hp1.2 hn1.1 hn1.2];exact hs,hip,hin⟩
 by_cases k10:o.kind=10
 ·rw [if_pos k10]
  dsimp only
  rw [opens_keep R n p ⟨(R.sub n p).there,true,(R.sub n p).want⟩ rfl]
  refine good_const _ fun t ht=>?_
  rw [List.mem_singleton] at ht
  subst ht
  exact ⟨by simp,by simp,Or.inr ho⟩
 rw [if_neg k10]
 by_cases k11:o.kind=11
 ·rw [if_pos k11]
  dsimp only
  rw [opens_keep R n p ⟨(R.sub n p).there,false,(R.sub n p).want⟩ rfl]
  refine good_const _ fun t ht=>?_
  rcases List.mem_cons.1 ht with rfl|ht
  ·exact ⟨by simp,by simp,Or.inr ho⟩
  ·exact waits_const t ht
 rw [if_neg k11]
 by_cases k12:o.kind=12
 ·rw [if_pos k12]
  dsimp only
  rw [opens_keep R n p ⟨(R.sub n p).there,(R.sub n p).paused,o.layer⟩ rfl]
  refine good_const _ fun t ht=>?_
  rcases List.mem_cons.1 ht with rfl|ht
  ·exact ⟨by simp,by simp,Or.inr ho⟩
  ·exact waits_const t ht
 rw [if_neg k12]
 exact Good.nil _
theorem doo_good {R:Room} (hI:Inv R) (o:Op) (sv:Value):Good (opens R) (doo R o sv).1.1 (opens (doo R o sv).1.2):=by
 unfold doo
 by_cases h0:wrong R o=0
 ·rw [if_neg (by simpa using h0)];exact turns_good hI (wrong_ok h0) sv
 ·rw [if_pos h0];exact Good.nil _
theorem opens_empty:opens empty=fun _=>false:=by
 funext x
 rw [Bool.eq_false_iff]
 intro h
 obtain ⟨p,n,_,_,_,_,_,h5⟩:=opens_iff.1 h
 cases h5
/-! ### all leave -/
end Go.Proofs.Rm
set_option linter.unusedSimpArgs false
namespace Go.Proofs.By
open Go.Proofs.Rm (Room Turn Inv Slim opens nextS allChk chk key2 hears goneOp doo turns)
def lkey (z:Life):Int × Int:=(z.peer,z.source)
def endAll (n at':Int) (dead:Int × Int→Bool) (ls:List Life):List Life:=ls.map fun z=>if z.fin=n∧dead (lkey z)=true then {z with fin:=at'} else z
theorem endAll_none {n at':Int} {dead:Int × Int→Bool} {ls:List Life} (h:∀ z∈ls,z.fin=n→dead (lkey z)=false):endAll n at' dead ls=ls:=by
 unfold endAll
 conv=>rhs;rw [←List.map_id ls]
 refine List.map_congr_left fun z hz=>?_
 by_cases hf:z.fin=n
 ·rw [if_neg (by rw [h z hz hf];simp)];rfl
 ·rw [if_neg (fun x=>hf x.1)];rfl
theorem endAll_two {n at':Int} (hat:at'≠n) (d1 d2:Int × Int→Bool) (ls:List Life):endAll n at' d2 (endAll n at' d1 ls)=endAll n at' (fun x=>d1 x || d2 x) ls:=by
 unfold endAll
 rw [List.map_map]
 refine List.map_congr_left fun z _=>?_
 have hor:∀ b c:Bool,(b || c)=true↔b=true∨c=true:=fun b c=>by rw [Bool.or_eq_true]
 by_cases h1:z.fin=n∧d1 (lkey z)=true
 ·have e1:(if z.fin=n∧d1 (lkey z)=true then {z with fin:=at'} else z)={z with fin:=at'}:=if_pos h1
  have e2:(if z.fin=n∧(d1 (lkey z) || d2 (lkey z))=true then {z with fin:=at'} else z)={z with fin:=at'}:=if_pos ⟨h1.1,(hor _ _).2 (Or.inl h1.2)⟩
  show (fun z:Life=>if z.fin=n∧d2 (lkey z)=true then {z with fin:=at'} else z) (if z.fin=n∧d1 (lkey z)=true then {z with fin:=at'} else z)=(if z.fin=n∧(d1 (lkey z) || d2 (lkey z))=true then {z with fin:=at'} else z)
  rw [e1,e2]
  exact if_neg (fun h=>hat h.1)
 ·have e1:(if z.fin=n∧d1 (lkey z)=true then {z with fin:=at'} else z)=z:=if_neg h1
  show (fun z:Life=>if z.fin=n∧d2 (lkey z)=true then {z with fin:=at'} else z) (if z.fin=n∧d1 (lkey z)=true then {z with fin:=at'} else z)=(if z.fin=n∧(d1 (lkey z) || d2 (lkey z))=true then {z with fin:=at'} else z)
  rw [e1]
  by_cases h2:z.fin=n∧d2 (lkey z)=true
  ·exact (if_pos h2).trans (if_pos ⟨h2.1,(hor _ _).2 (Or.inr h2.2)⟩).symm
  ·refine (if_neg h2).trans (if_neg ?_).symm
   rintro ⟨a,b⟩
   rcases (hor _ _).1 b with c|c
   ·exact h1 ⟨a,c⟩
   ·exact h2 ⟨a,c⟩
theorem endAll_congr {n at':Int} {d1 d2:Int × Int→Bool} {ls:List Life} (h:∀ z∈ls,z.fin=n→d1 (lkey z)=d2 (lkey z)):endAll n at' d1 ls=endAll n at' d2 ls:=by
 unfold endAll
 refine List.map_congr_left fun z hz=>?_
 by_cases hf:z.fin=n
 ·rw [h z hz hf]
 ·rw [if_neg (fun x=>hf x.1),if_neg (fun x=>hf x.1)]
structure LI (n:Int) (S:Rm.Open) (ls:List Life):Prop where
 iff:∀ x,S x=true↔∃ z∈ls,lkey z=x∧z.fin=n
 last:ls.Pairwise fun a b=>a.fin=n→lkey b≠lkey a
theorem LI.nil (n:Int):LI n (fun _=>false) []:=⟨fun x=>⟨fun h=>absurd h (by decide),fun ⟨z,h,_⟩=>by cases h⟩,List.Pairwise.nil⟩
theorem LI.begin {n:Int} {S:Rm.Open} {ls:List Life} (h:LI n S ls) (p s b:Int) (hS:S (p,s)=false):LI n (fun x=>decide (x=(p,s)) || S x) (ls++[⟨p,s,b,n⟩]):=by
 refine ⟨fun x=>?_,List.pairwise_append.2 ⟨h.last,List.pairwise_singleton _ _,fun a ha c hc hf he=>?_⟩⟩
 ·rw [Bool.or_eq_true,decide_eq_true_eq,h.iff x]
  constructor
  ·rintro (h1|⟨z,h1,h2⟩)
   ·exact ⟨_,List.mem_append_right _ (List.mem_singleton.2 rfl),h1.symm,rfl⟩
   ·exact ⟨z,List.mem_append_left _ h1,h2⟩
  ·rintro ⟨z,h1,h2,h3⟩
   rcases List.mem_append.1 h1 with h1|h1
   ·exact Or.inr ⟨z,h1,h2,h3⟩
   ·rw [List.mem_singleton] at h1;subst h1;exact Or.inl h2.symm
 ·rw [List.mem_singleton] at hc
  subst hc
  have:=(h.iff (p,s)).2 ⟨a,ha,he.symm,hf⟩
  rw [hS] at this
  cases this
theorem LI.end {n at':Int} {S:Rm.Open} {ls:List Life} (h:LI n S ls) (hat:at'≠n) (d:Int × Int→Bool):LI n (fun x=> !d x && S x) (endAll n at' d ls):=by
 refine ⟨fun x=>?_,?_⟩
 ·rw [Bool.and_eq_true,Bool.not_eq_true',h.iff x]
  constructor
  ·rintro ⟨hd,z,h1,h2,h3⟩
   refine ⟨z,?_,h2,h3⟩
   unfold endAll
   rw [List.mem_map]
   exact ⟨z,h1,by rw [if_neg];rintro ⟨_,hx⟩;rw [h2,hd] at hx;cases hx⟩
  ·rintro ⟨z,h1,h2,h3⟩
   unfold endAll at h1
   rw [List.mem_map] at h1
   obtain ⟨y,hy,e⟩:=h1
   by_cases hc:y.fin=n∧d (lkey y)=true
   ·rw [if_pos hc] at e;subst e;exact absurd h3 hat
   ·rw [if_neg hc] at e;subst e
    refine ⟨?_,y,hy,h2,h3⟩
    rw [Bool.eq_false_iff]
    intro hx
    rw [←h2] at hx
    exact hc ⟨h3,hx⟩
 ·unfold endAll
  rw [List.pairwise_map]
  have hk:∀ z:Life,lkey (if z.fin=n∧d (lkey z)=true then {z with fin:=at'} else z)=lkey z:=fun z=>by split <;> rfl
  refine h.last.imp fun {a b} hab hf=>?_
  rw [hk,hk]
  refine hab ?_
  by_cases hc:a.fin=n∧d (lkey a)=true
  ·exact hc.1
  ·rwa [if_neg hc] at hf
theorem endGo_past (p s at':Int) (l1:List Life) (z:Life) (hz:lkey z=(p,s)) (l2:List Life) (h:∀ b∈l2,lkey b≠(p,s)):∀ k,k≤l2.length→endGo p s at' (l1++z :: l2) (l1.length+1+k)=l1++{z with fin:=at'} :: l2
 | 0,_=>by
  have e1:(l1++z :: l2).getD l1.length noLife=z:=by rw [List.getD_eq_getElem?_getD,List.getElem?_append_right (Nat.le_refl _),Nat.sub_self];rfl
  unfold endGo
  rw [e1,if_pos (by unfold lkey at hz;simpa using hz),List.set_append_right _ _ (Nat.le_refl _),Nat.sub_self]
  rfl
 | k+1,hk=>by
  have hk':k<l2.length:=hk
  have e1:(l1++z :: l2).getD (l1.length+1+k) noLife=l2[k]:=by
   rw [List.getD_eq_getElem?_getD,List.getElem?_append_right (by omega),show l1.length+1+k-l1.length=k+1 by omega,List.getElem?_cons_succ,List.getElem?_eq_getElem hk']
   rfl
  have hne:=h l2[k] (List.getElem_mem hk')
  show endGo p s at' (l1++z :: l2) (l1.length+1+k+1)=_
  unfold endGo
  rw [e1,if_neg (by unfold lkey at hne;simpa using hne)]
  exact endGo_past p s at' l1 z hz l2 h k (by omega)
theorem endGo_all {n at':Int} {S:Rm.Open} {ls:List Life} (h:LI n S ls) {p s:Int} (hS:S (p,s)=true):endGo p s at' ls ls.length=endAll n at' (fun x=>decide (x=(p,s))) ls:=by
 obtain ⟨z,hz,hk,hf⟩:=(h.iff (p,s)).1 hS
 obtain ⟨l1,l2,rfl⟩:=List.append_of_mem hz
 have hp:=List.pairwise_append.1 h.last
 have hp2:=List.pairwise_cons.1 hp.2.1
 have h2:∀ b∈l2,lkey b≠(p,s):=fun b hb=>by have:=hp2.1 b hb hf;rwa [hk] at this
 have h1:∀ a∈l1,a.fin=n→lkey a≠(p,s):=fun a ha hfa e=>hp.2.2 a ha z (List.mem_cons_self ..) hfa (by rw [hk,e])
 rw [show (l1++z :: l2).length=l1.length+1+l2.length by rw [List.length_append,List.length_cons];omega,endGo_past p s at' l1 z hk l2 h2 _ (Nat.le_refl _)]
 have e1:endAll n at' (fun x=>decide (x=(p,s))) l1=l1:=endAll_none fun a ha hfa=>decide_eq_false (h1 a ha hfa)
 have e2:endAll n at' (fun x=>decide (x=(p,s))) l2=l2:=endAll_none fun b hb _=>decide_eq_false (h2 b hb)
 unfold endAll at e1 e2 ⊢
 rw [List.map_append,List.map_cons,e1,e2,if_pos ⟨hf,decide_eq_true hk⟩]
theorem fold_less:∀ (ts:List Turn) (S:Rm.Open),(∀ t∈ts,t.kind≠1)→∀ x,ts.foldl nextS S x=true→S x=true
 | [],_,_,_,h=>h
 | t :: ts,S,ht,x,h=>by
  have h1:=fold_less ts (nextS S t) (fun u hu=>ht u (List.mem_cons_of_mem _ hu)) x h
  unfold nextS at h1
  rw [if_neg (ht t (List.mem_cons_self ..))] at h1
  by_cases h2:t.kind=2
  ·rw [if_pos h2] at h1;exact (Bool.and_eq_true _ _ |>.mp h1).2
  ·rwa [if_neg h2] at h1
theorem livesOf_ends {n at':Int} (hat:at'≠n):∀ (ts:List Turn) (S:Rm.Open) (ls:List Life),LI n S ls→allChk S ts→(∀ t∈ts,t.kind≠1) →
  livesOf n at' ls ts=endAll n at' (fun x=>S x && !(ts.foldl nextS S) x) ls∧LI n (ts.foldl nextS S) (livesOf n at' ls ts)
 | [],S,ls,h,_,_=>⟨(endAll_none fun z _ _=>by show (S (lkey z) && !(S (lkey z)))=false;cases S (lkey z) <;> rfl).symm,h⟩
 | t :: ts,S,ls,h,hc,hb=>by
  have h1:=hb t (List.mem_cons_self ..)
  have hb':∀ u∈ts,u.kind≠1:=fun u hu=>hb u (List.mem_cons_of_mem _ hu)
  by_cases h2:t.kind=2
  ·have hS:S (key2 t)=true:=by
    have:=hc.1
    unfold chk at this
    rw [if_neg h1,if_pos h2] at this
    exact (Bool.and_eq_true _ _ |>.mp this).2
   have e1:lifeTurn n at' ls t=endAll n at' (fun x=>decide (x=key2 t)) ls:=by
    unfold lifeTurn
    rw [if_neg h1,if_pos h2]
    exact endGo_all h hS
   have e2:nextS S t=fun x=> !decide (x=key2 t) && S x:=by unfold nextS;rw [if_neg h1,if_pos h2]
   have hl:=h.end hat (fun x=>decide (x=key2 t))
   have ih:=livesOf_ends hat ts (nextS S t) (lifeTurn n at' ls t) (by rw [e1,e2];exact hl) hc.2 hb'
   show livesOf n at' (lifeTurn n at' ls t) ts=endAll n at' (fun x=>S x && !(ts.foldl nextS (nextS S t)) x) ls∧LI n (ts.foldl nextS (nextS S t)) (livesOf n at' (lifeTurn n at' ls t) ts)
   refine ⟨?_,ih.2⟩
   rw [ih.1,e1,endAll_two hat]
   refine endAll_congr fun z _ _=>?_
   have hf:=fold_less ts (nextS S t) hb' (lkey z)
   have e3:nextS S t (lkey z)=(!decide (lkey z=key2 t) && S (lkey z)):=by rw [e2]
   by_cases hk:lkey z=key2 t
   ·rw [hk] at hf e3 ⊢
    rw [decide_eq_true rfl] at e3
    have e4:ts.foldl nextS (nextS S t) (key2 t)=false:=by
     rw [Bool.eq_false_iff]
     intro hx
     have:=hf hx
     rw [e3] at this
     cases this
    rw [e4,hS,decide_eq_true rfl];rfl
   ·rw [e3,decide_eq_false hk];rfl
  ·have e1:lifeTurn n at' ls t=ls:=by unfold lifeTurn;rw [if_neg h1,if_neg h2]
   have e2:nextS S t=S:=by unfold nextS;rw [if_neg h1,if_neg h2]
   have hc2:=hc.2
   rw [e2] at hc2
   have ih:=livesOf_ends hat ts S ls h hc2 hb'
   show livesOf n at' (lifeTurn n at' ls t) ts=endAll n at' (fun x=>S x && !(ts.foldl nextS (nextS S t)) x) ls∧LI n (ts.foldl nextS (nextS S t)) (livesOf n at' (lifeTurn n at' ls t) ts)
   rw [e1,e2]
   exact ih
theorem goneGo_kinds (n:Nat):∀ (l:List Nat) (R:Room),∀ t∈(Rm.goneGo n l R).1,t.kind≠1
 | [],_,t,h=>by cases h
 | p :: l,R,t,h=>by
  have h:t∈(⟨3,p,n,0,0⟩ :: ⟨2,p,n,0,0⟩ :: (Rm.goneGo n l (R.setSub n p Rm.noSub)).1:List Turn):=h
  rcases List.mem_cons.1 h with rfl|h
  ·show (3:Int)≠1;decide
  rcases List.mem_cons.1 h with rfl|h
  ·show (2:Int)≠1;decide
  ·exact goneGo_kinds n l _ t h
theorem gone_kinds (R:Room) (n:Nat):∀ t∈(Rm.gone R n).1,t.kind≠1:=goneGo_kinds n _ R
theorem leave1_kinds (p:Nat) (R:Room):∀ k,∀ t∈(Rm.leave1 p R k).1,t.kind≠1
 | 0,t,h=>by cases h
 | k+1,t,h=>by
  unfold Rm.leave1 at h
  dsimp only at h
  split at h
  ·rcases List.mem_append.1 h with h|h
   ·exact leave1_kinds p R k t h
   ·rw [List.mem_singleton] at h;subst h;show (2:Int)≠1;decide
  ·exact leave1_kinds p R k t h
theorem leave2_kinds (R:Room) (p:Nat):∀ k,∀ t∈(Rm.leave2 R p k).1,t.kind≠1
 | 0,t,h=>by cases h
 | k+1,t,h=>by
  unfold Rm.leave2 at h
  dsimp only at h
  split at h
  ·rcases List.mem_append.1 h with h|h
   ·exact leave2_kinds R p k t h
   ·exact gone_kinds _ _ t h
  ·exact leave2_kinds R p k t h
theorem waits_kinds (R:Room) (p n:Nat):∀ t∈Rm.waits R p n,t.kind≠1:=fun t h=>by
 unfold Rm.waits at h
 split at h
 ·cases h
 ·rw [List.mem_singleton] at h;subst h;show (9:Int)≠1;decide
theorem mute_kinds (R:Room) (n:Nat) (on:Bool):∀ t∈(Rm.mute R n on).1,t.kind≠1:=fun t h=>by
 have h:t∈(Rm.subs (R.setSrc n {R.src n with muted:=on}) n).flatMap (Rm.muteTurns (R.setSrc n {R.src n with muted:=on}) n on):=h
 rw [List.mem_flatMap] at h
 obtain ⟨p,_,h⟩:=h
 unfold Rm.muteTurns at h
 split at h
 ·rw [List.mem_singleton] at h;subst h;show (6:Int)≠1;decide
 ·rcases List.mem_cons.1 h with rfl|h
  ·show (7:Int)≠1;decide
  ·exact waits_kinds _ _ _ t h
theorem turns_kinds (R:Room) (o:Rm.Op) (sv:Value) (h6:o.kind≠6):∀ t∈(turns R o sv).1,t.kind≠1:=by
 intro t h
 unfold turns at h
 dsimp only at h
 by_cases k2:o.kind=2
 ·rw [if_pos k2] at h;cases h
 rw [if_neg k2] at h
 by_cases k3:o.kind=3
 ·rw [if_pos k3] at h
  rcases List.mem_append.1 h with h|h
  ·exact leave1_kinds _ _ _ t h
  ·exact leave2_kinds _ _ _ t h
 rw [if_neg k3] at h
 by_cases k4:o.kind=4
 ·rw [if_pos k4] at h;cases h
 rw [if_neg k4] at h
 by_cases k5:o.kind=5
 ·rw [if_pos k5] at h;exact gone_kinds _ _ t h
 rw [if_neg k5,if_neg h6] at h
 by_cases k7:o.kind=7
 ·rw [if_pos k7,List.mem_singleton] at h;subst h;show (2:Int)≠1;decide
 rw [if_neg k7] at h
 by_cases k8:o.kind=8
 ·rw [if_pos k8] at h;exact mute_kinds _ _ _ t h
 rw [if_neg k8] at h
 by_cases k9:o.kind=9
 ·rw [if_pos k9] at h;exact mute_kinds _ _ _ t h
 rw [if_neg k9] at h
 by_cases k10:o.kind=10
 ·rw [if_pos k10,List.mem_singleton] at h;subst h;show (4:Int)≠1;decide
 rw [if_neg k10] at h
 by_cases k11:o.kind=11
 ·rw [if_pos k11] at h
  rcases List.mem_cons.1 h with rfl|h
  ·show (5:Int)≠1;decide
  ·exact waits_kinds _ _ _ t h
 rw [if_neg k11] at h
 by_cases k12:o.kind=12
 ·rw [if_pos k12] at h
  rcases List.mem_cons.1 h with rfl|h
  ·show (8:Int)≠1;decide
  ·exact waits_kinds _ _ _ t h
 rw [if_neg k12] at h
 cases h
theorem goneOp_ends {R:Room} (hI:Inv R) (p x:Int):Rm.Good (opens R) (goneOp R p x).1.1 (opens (goneOp R p x).1.2)∧∀ t∈(goneOp R p x).1.1,t.kind≠1:=by
 unfold goneOp
 split
 ·exact ⟨Rm.Good.nil _,fun t h=>by cases h⟩
 ·next h=>
  simp only [Bool.or_eq_true,Bool.not_eq_true',decide_eq_true_eq,not_or,Bool.not_eq_false] at h
  obtain ⟨m,hm,ht,-,he⟩:=Rm.of_some h.1.1
  have hb:1≤(Rm.of R x).1.toNat∧(Rm.of R x).1.toNat<9:=by
   have h1:=hI.srcAt m ht
   rw [he]
   show 1≤(m:Int).toNat∧(m:Int).toNat<9
   omega
  exact ⟨Rm.gone_good R hb,gone_kinds R _⟩
theorem goneAll_ends (p:Int):∀ (l:List Int) (R:Room),Inv R→Slim R→Rm.Good (opens R) (goneAll p l R).1.1 (opens (goneAll p l R).1.2)∧∀ t∈(goneAll p l R).1.1,t.kind≠1
 | [],R,_,_=>⟨Rm.Good.nil _,fun t h=>by cases h⟩
 | x :: l,R,hI,hs=>by
  have h1:=goneOp_ends hI p x
  have h0:=goneAll_ok p [x] R hI hs
  have h2:=goneAll_ends p l (goneOp R p x).1.2 h0.1 h0.2.1
  exact ⟨Rm.Good.append h1.1 h2.1,fun t h=>by
   rcases List.mem_append.1 h with h|h
   ·exact h1.2 t h
   ·exact h2.2 t h⟩
theorem itemDo_ends {R:Room} (hI:Inv R) (hs:Slim R) (p:Int) (i:Itm):Rm.Good (opens R) (itemDo R p i).1.1 (opens (itemDo R p i).1.2)∧∀ t∈(itemDo R p i).1.1,t.kind≠1:=by
 unfold itemDo
 split
 ·exact ⟨Rm.Good.nil _,fun t h=>by cases h⟩
 split
 ·exact ⟨Rm.Good.nil _,fun t h=>by cases h⟩
 split
 ·exact goneAll_ends p _ R hI hs
 ·exact ⟨Rm.Good.nil _,fun t h=>by cases h⟩
theorem itemsDo_ends (p:Int):∀ (l:List Itm) (R:Room),Inv R→Slim R→(∀ i∈l,ItmOk i)→Rm.Good (opens R) (itemsDo p l R).1.1 (opens (itemsDo p l R).1.2)∧∀ t∈(itemsDo p l R).1.1,t.kind≠1
 | [],R,_,_,_=>⟨Rm.Good.nil _,fun t h=>by cases h⟩
 | x :: l,R,hI,hs,hi=>by
  have h1:=itemDo_ends hI hs p x
  have h0:=itemDo_ok hI hs p (hi x (List.mem_cons_self ..))
  have h2:=itemsDo_ends p l (itemDo R p x).1.2 h0.1 h0.2.1 (fun i h=>hi i (List.mem_cons_of_mem _ h))
  exact ⟨Rm.Good.append h1.1 h2.1,fun t h=>by
   rcases List.mem_append.1 h with h|h
   ·exact h1.2 t h
   ·exact h2.2 t h⟩
theorem sift_items {b:List UInt8} {l:List Itm} (hv:(sift b).1 = .feedback l):∀ i∈l,ItmOk i:=by
 by_cases h3:192≤at8 b 1∧at8 b 1≤223
 ·by_cases h2:(sift b).2=0
  ·have:=sift_feed h3 h2
   rw [this] at hv
   injection hv with hv
   rw [←hv]
   exact (itemsGet_ok b).1
  ·exfalso
   have hne:(sift b).2≠0→(sift b).1 ≠ .feedback l:=by
    unfold sift
    by_cases q1:512<b.length
    ·rw [if_pos q1];exact fun _ h=>by cases h
    rw [if_neg q1]
    by_cases q2:b.length<2
    ·rw [if_pos q2];exact fun _ h=>by cases h
    rw [if_neg q2,if_pos h3]
    by_cases q4:(itemsGet b).2≠0
    ·rw [if_pos q4];exact fun _ h=>by cases h
    ·rw [if_neg q4];exact fun h=>absurd rfl h
   exact hne h2 hv
 ·exact Yx115
end Go.Proofs.By
set_option linter.unusedSimpArgs false
namespace Go.Proofs.By
open Go.Proofs.Rm (Room Turn)
theorem run_at {L:List OpB} {k:Nat} {y:OpB} (hy:L[k]?=some y):takenAt L k=(take (runTo L k).1 (runTo L k).2 y.x.o y.b (.slice none 0 0)).1.1∧runTo L (k+1)=((take (runTo L k).1 (runTo L k).2 y.x.o y.b (.slice none 0 0)).1.2.bare,(take (runTo L k).1 (runTo L k).2 y.x.o y.b (.slice none 0 0)).2):=by
 constructor
 ·unfold takenAt;rw [hy]
 ·conv=>lhs;unfold runTo
  rw [hy]
end Go.Proofs.By
