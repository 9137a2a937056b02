/- Part of a proof. -/
import Derived.Test.YtpdjhlcbcomdkaaGreatDoorW23
set_option linter.unusedVariables false
set_option linter.unusedSimpArgs false
set_option maxRecDepth 100000
set_option maxHeartbeats 16000000
open Go Go.Q Go.Qr
namespace Go.Proofs.By
open Go.RowKit Go.Proofs.Heap
open Go.Proofs.Rm (YG YD Room ZT Inv Wa Ze TJ Z9 XP VZ Yc WJ YL)
theorem XS {w w':World} {base:Nat} {e:TypeId} {size:Nat} {v:Value} {n:Nat} {xs:List Value} (h:w.ownsRow base e size v n xs) (hb:∀ k,v.ownBlock=some k→w'.heap[k]?=w.heap[k]?):w'.ownsRow base e size v n xs:=by
 obtain ⟨hl,h⟩:=h
 refine ⟨hl,?_⟩
 rcases h with h|⟨g,cap,cur,rfl,hg,hh,h1,h2,h3,h4⟩
 ·exact Ww h
 ·exact Wi ⟨g,cap,cur,rfl,hg,(hb g rfl).trans hh,h1,h2,h3,h4⟩
theorem MG.below {w w':World} {v:Value} {L:List R5} (h:MG w v L) (hb:Below w w w'):MG w' v L:=⟨h.row.below hb,fun x hx=>(h.each x hx).below hb⟩
theorem MG.fr {w w':World} {v:Value} {L:List R5} {S:Nat→Prop} (h:MG w v L) (hf:Fr w S w w') (hS:KR w S):MG w' v L:=
 ⟨Row.fr h.row hf (Zw _) (hS.ne Zi),fun x hx=>⟨Row.fr (h.each x hx).b hf (Zw _) (hS.ne Zi),Row.fr (h.each x hx).g hf (Zw _) (hS.ne Zi),Row.fr (h.each x hx).p hf (Zw _) (hS.ne Zi)⟩⟩
def DF (iv tv u:Value):Array Value:=#[.int .i64 0,.int .i64 0,.int .i64 0,.int .i64 0,.bool false,.int .i64 0,.int .u16 0,.int .u32 0,.int .u32 0,.slice none 0 0,.bool false,.int .u16 0,.slice none 0 0,.slice none 0 0,.int .i64 0,.int .i64 0,.bool false,.bool false,.int .u16 0,iv,tv,u]
structure DL (w w':World) (g b k:Nat) (ep:Int) (oc:Array Value) (iv:Value) (LV:List R5) (ry:Value) (cu:Int) (tv:Value) (ts:List YD) (Q:Room):Prop where
 fr:Fr w (fun j=>j=b∨j=g) w w'
 op:w'.heap[w.heap.size]?=some (.cells oc 32 (0,0))
 z:w'.heap[w.heap.size+1]?=some (.cells Xv 100 (0,0))
 Za:w'.heap[k]?=some (.cells (DF iv ry (.int .i64 cu)) 100 (0,0))
 its:MG w' iv LV
 own:w'.ownsRow w 158 5 tv ts.length (ts.flatMap Z9)
 R8:Yd w' g b Q ep
 kl:w.heap.size+1<k
 bl:b<w.heap.size
 gl:g<w.heap.size
section
variable {w w1 w2:World} {g b k:Nat} {ep:Int} {oc:Array Value} {iv:Value} {LV:List R5} {ry:Value} {cu:Int} {tv:Value} {ts:List YD} {Q:Room}
theorem DL.below (h:DL w w1 g b k ep oc iv LV ry cu tv ts Q) (hb:Below w1 w1 w2):DL w w2 g b k ep oc iv LV ry cu tv ts Q:=
 ⟨h.fr.trans (Fr.Z8 _ (hb.mono h.fr.size)),(hb.block _ (ZV h.op)).trans h.op,(hb.block _ (ZV h.z)).trans h.z,(hb.block _ (ZV h.Za)).trans h.Za,h.its.below hb,Yx h.own hb,h.R8.below hb,h.kl,h.bl,h.gl⟩
theorem DL.item (h:DL w w1 g b k ep oc iv LV ry cu tv ts Q) {Q':Room} (hr:ZT w2 b Q') (hf:Fr w1 (· = b) w1 w2):DL w w2 g b k ep oc iv LV ry cu tv ts Q':=by
 have hb:=h.bl
 have hk:=h.kl
 exact ⟨h.fr.trans (hf.mono h.fr.size (fun _ _ h=>Ww h)),(hf.block _ (ZV h.op) Zo).trans h.op,(hf.block _ (ZV h.z) Zo).trans h.z,(hf.block _ (ZV h.Za) Zo).trans h.Za,h.its.fr hf (fun j hj=>h.R8.apart j (Ww hj)),WJ h.own hf (fun j hj=>by have hj:j=b:=hj;omega),⟨(hf.block g (ZV h.R8.Za) h.R8.ne).trans h.R8.Za,hr⟩,h.kl,h.bl,h.gl⟩
theorem DL.grown (h:DL w w1 g b k ep oc iv LV ry cu tv ts Q) (hg:w1.grownBy w2 tv.ownBlock) {tv':Value} {ts':List YD} (ho:w2.ownsRow w 158 5 tv' ts'.length (ts'.flatMap Z9)):DL w w2 g b k ep oc iv LV ry cu tv' ts' Q:=by
 have WM:∀ {j c e f},w1.heap[j]?=some (.cells c e f)→e≠158→tv.ownBlock≠some j:=fun hj he ho=>Zf h.own he _ _ _ ho hj
 have hf:=XZ hg
 have ht:∀ e,e≠158→∀ j c fr,tv.ownBlock=some j→w1.heap[j]?≠some (.cells c e fr):=fun e he=>Zf h.own he
 exact ⟨h.fr.grown hg h.fr.size (YL h.own),(hg.block _ (ZV h.op) (fun e=>WM h.op Zd e.symm)).trans h.op,(hg.block _ (ZV h.z) (fun e=>WM h.z Zd e.symm)).trans h.z,(hg.block _ (ZV h.Za) (fun e=>WM h.Za Zd e.symm)).trans h.Za,
  ⟨Row.fr h.its.row hf (Zw _) (ht _ Zd),fun x hx=>(h.its.each x hx).yR hf (ht _ Zd) (ht _ Zd) (ht _ Zd)⟩,ho,
  ⟨(hg.block _ (ZV h.R8.Za) (fun e=>WM h.R8.Za Zd e.symm)).trans h.R8.Za,ZT.grown h.R8.room h.own hg h.bl Zd⟩,h.kl,h.bl,h.gl⟩
theorem DL.set (h:DL w w1 g b k ep oc iv LV ry cu tv ts Q) (o:Nat) (v ctv':Value) (cu':Int) (hc:(DF iv ry (.int .i64 cu)).setIfInBounds o v=DF iv ctv' (.int .i64 cu')):DL w (w1.setCell ⟨k,o,none⟩ v) g b k ep oc iv LV ctv' cu' tv ts Q:=by
 have hk:=h.kl
 have hb:=h.bl
 have Bz:=h.gl
 have hf:Fr w1 (· = k) w1 (w1.setCell ⟨k,o,none⟩ v):=(Fr.refl _ _ _).setAt _ _
 have Ip:∀ e,100≠e→∀ j c fr,j=k→w1.heap[j]?≠some (.cells c e fr):=by
  intro e he j c fr hj hc
  rw [hj,h.Za] at hc
  injection hc with hc
  injection hc with _ hc
  exact he hc
 have pH:=VM h.Za o v
 rw [hc] at pH
 exact ⟨h.fr.setCell (p:=⟨k,o,none⟩) (Ww (by show _≤k;omega)) _,(hf.block _ (ZV h.op) Zo).trans h.op,(hf.block _ (ZV h.z) Zo).trans h.z,pH,
  h.its.fr hf (fun j hj=>by have hj:j=k:=hj;subst hj;exact ⟨_,_,_,h.Za,by decide,by decide,by decide,by decide,by decide,by decide,by decide⟩),
  XS h.own (fun j hj=>by
   by_cases JN:j=k
   ·subst JN;exact absurd h.Za (Zf h.own Zd _ _ _ hj)
   ·exact MW w1 ⟨k,o,none⟩ _ j JN),
  ⟨(hf.block g (ZV h.R8.Za) Zo).trans h.R8.Za,h.R8.room.fr hf (Zw _) Zo (Ip _ Zd)⟩,h.kl,h.bl,h.gl⟩
theorem DL.facts (h:DL w w1 g b k ep oc iv LV ry cu tv ts Q):w1.cell? ⟨k,20,none⟩=some ry∧w1.cell? ⟨k,21,none⟩=some (.int .i64 cu)∧w1.frozen? ⟨k,20,none⟩=false∧w1.frozen? ⟨k,21,none⟩=false:=
 ⟨Zc h.Za 20 rfl,Zc h.Za 21 rfl,ZO h.Za 20,ZO h.Za 21⟩
end
theorem Rt {α:Type} {l:List α} {k:Nat} {x:α} (h:l[k]?=some x):l.take (k+1)=l.take k++[x]:=by
 obtain ⟨h1,h2⟩:=List.getElem?_eq_some_iff.1 h
 rw [List.take_succ_eq_append_getElem h1,h2]
theorem Fs (g b:Nat) (R:Room) (ep kd peer src ly:Int) (nm:ByteArray) (sa ba:Option Addr) (sl sc bl bc:Nat) (l:List UInt8) (w:World) (hD:Yd w g b R ep) (hI:Inv R) (hS:Wa R) (h0:0≤ep) (h9:ep<1000000000) (hv:X9 w (.slice ba bl bc) l) (h3:192≤at8 l 1∧at8 l 1≤223) :
  Calls Tryz.prog 76 (Qi (some ⟨g,0,none⟩) (Qa kd peer src ly nm sa sl sc ba bl bc)) w fun e w'=>(∃ cs:List Value,e = .returned (.agg cs.toArray)∧Yh w' cs (YF R ep peer l).1.1)∧Yd w' g b (YF R ep peer l).1.2 (YF R ep peer l).2∧Fr w (fun k=>k=b∨k=g) w w':=by
 have HX:Hid (YF R ep peer l=if (XJ l).2≠0 then ((Yf 3 (XJ l).2,R),ep) else if !Ze R peer then ((Yf 4 0,R),ep) else match (XJ l).1 with
  | .X7 p d=>((Vd R ep peer p d,R),ep)
  | .XV l=>((Ul (ep+1) l (ZE peer l R).1.1 (ZE peer l R).2,(ZE peer l R).1.2),ep+1)
  | .none=>((Ul (ep+1) [] [] 0,R),ep+1)):=rfl
 have MF:Hid ((XJ l).2=0→(XJ l).1 = .XV (Ym l).1):=fun h=>Nj h3 h
 have P8:=Zh (Ss l)
 have Bz:=hD.cells.2.2.2
 have W9:=hD.room.lt
 have wW:=hD.ne
 have Au:((w.alloc (.cells (Qa kd peer src ly nm sa sl sc ba bl bc) 32)).alloc (.cells Xv 100)).heap[w.heap.size]?=some (.cells (Qa kd peer src ly nm sa sl sc ba bl bc) 32 (0,0)):=by
  rw [(Z' _ _).block _ Ca]
  exact Z7 w _
 have hz:((w.alloc (.cells (Qa kd peer src ly nm sa sl sc ba bl bc) 32)).alloc (.cells Xv 100)).heap[w.heap.size+1]?=some (.cells Xv 100 (0,0)):=by
  exact Yx49
 have KM:Below w w ((w.alloc (.cells (Qa kd peer src ly nm sa sl sc ba bl bc) 32)).alloc (.cells Xv 100)):=ZC (Z' w _) (Zw _) _
 have fM:=Zh hD
 have Bu:Hid (Yd ((w.alloc (.cells (Qa kd peer src ly nm sa sl sc ba bl bc) 32)).alloc (.cells Xv 100)) g b R ep):=hD.below KM
 have CS:=Zh (yh _ l ((w.alloc (.cells (Qa kd peer src ly nm sa sl sc ba bl bc) 32)).alloc (.cells Xv 100)) (hv.below KM))
 have J9:=Zh Au
 have HZ:=Zh hz
 have R4:=Zh KM
 clear hD hv Au hz KM h3
 generalize YF R ep peer l=X at *
 generalize XJ l=Y at *
 generalize (Ym l).1=IL at *
 obtain ⟨ev,er⟩:=Y
 dsimp only at HX MF CS
 go_enter Tryz.func76,Tryz.ntmps76
 go_upto_region 2 with (go_at_call 105;refine CS.o.mono ?_;rintro e w2 ⟨⟨a,rfl,Lm⟩,Y0⟩;have Bv:=Zh Lm;have X6:=Zh Y0;clear Lm Y0)
 clear CS
 generalize ((w.alloc (.cells (Qa kd peer src ly nm sa sl sc ba bl bc) 32)).alloc (.cells Xv 100))=w1 at *
 have Zz:Hid (∀ w',Below w1 w1 w'→w'.cell? ⟨g,0,none⟩=some (.pointer (some ⟨b,0,none⟩))∧w'.cell? ⟨w,1,none⟩=some (.int .i64 peer)):=fun w' h=>
  ⟨(Bu.o.below h).cells.1,by rw [cell_of ((h.block w.heap.size (ZV J9.o)).trans J9.o) 1];rfl⟩
 have UL:Hid (∀ w' cs T,Below w w w'→Yh w' cs T→X=((T,R),ep)→(∃ cs':List Value,Ending.returned (.agg cs.toArray) = .returned (.agg cs'.toArray)∧Yh w' cs' X.1.1)∧Yd w' g b X.1.2 X.2∧Fr w (fun k=>k=b∨k=g) w w'):=fun w' cs T h1 h2 h3=>by
  rw [h3];exact ⟨⟨cs,rfl,h2⟩,fM.o.below h1,Fr.Z8 _ h1⟩
 by_cases R9:er=0
 ·subst R9
  rw [Z4 Zi] at HX
  have hpd:=MF.o rfl
  subst hpd
  dsimp only at HX
  have HJ:=Zh (TJ b R peer w2.drew ((Bu.o.room.below X6.o).below (YH _ _).drew))
  go_upto_region 4 with fail
  refine Sd ?_
  refine wp_region_held_drew (S:=(fun w'=>w'.cell? ⟨g,0,none⟩=some (.pointer (some ⟨b,0,none⟩))∧w'.cell? ⟨w,1,none⟩=some (.int .i64 peer))) ZB ?_ (fun X_=>?_)
  ·(try dsimp only)
   exact Zz.o _ X6.o.drew
  refine YA 0 (h:=YA 1 (h:=YA 2 (h:=YA 3 (h:=YA 4 (h:=YA 5 (h:=?_))))))
  refine Si 6 (h:=fun K hK=>?_)
  go_simp
  refine HJ.o.mono ?_
  rintro e w' ⟨rfl,rfl⟩
  go_wp2_with fail
  refine hK.out _ _ ?_ (fun XC=>?_)
  ·(try dsimp only)
   exact Zz.o _ X6.o.drew
  clear hK K
  try simp only [Z_.pt]
  refine YA 7 (h:=?_)
  refine wpAnyH_done ZB ?_ _
  refine QY ?_
  clear X_ XC Zz
  have VT:Hid (Below w1 w1 w2.drew):=X6.o.drew
  have mM:Hid (vO w2.drew a (.XV IL)):=Bv.o.below (YH _ _).drew
  clear X6 Bv HJ
  generalize w2.drew=w3 at *
  clear w2
  by_cases hj:Ze R peer=true
  ·rw [hj,Z4 Zi] at HX
   rw [hj]
   have as1:=zL
   obtain ⟨iv,ha,hP⟩:=mM.o
   subst ha
   have hM:=Z7 w3 (.cells UW 97)
   have Uc:Hid (Below w3 w3 ((w3.alloc (.cells UW 97)).setRow w3.heap.size UW)):=Z3 (Z' w3 _) (Zw _) _
   have HP:=Zh hP
   clear mM hP
   go_upto_region 9 with (with_reducible refine ZU 97 (.tmp 7) (.tmp 39) rfl ?_;refine ZW rfl 97 (.tmp 7) (.tmp 39) rfl rfl w3.heap.size UW rfl rfl 97 UW hM ZB ZB ZB ?_)
   clear hM
   generalize ((w3.alloc (.cells UW 97)).setRow w3.heap.size UW)=w4 at *
   have CF:=Zh (mI iv IL w4 (HP.o.below Uc.o) P8.o.1 (by have:=P8.o.2;omega))
   have bE:Hid (Below w1 w1 w4):=VT.o.trans (Uc.o.mono VT.o.size)
   clear VT Uc HP
   go_upto_region 10 with (first|(go_at_call 107;refine CF.o.mono ?_;rintro e w5 ⟨⟨v',rfl,hit⟩,Lj⟩;have bh:(w5.alloc (.cells VI 79)).heap.size=w5.heap.size+1:=(by show (w5.heap.push _).size=_;rw [O6]);have hzp:((w5.alloc (.cells VI 79)).alloc (.cells (Qc 0 false false 0) 81)).heap[w5.heap.size]?=some (.cells VI 79 (0,0)):=(by rw [(Z' _ _).block _ (by rw [bh];exact Nat.lt_succ_self _)];exact Z7 w5 _);have eY:(((w5.alloc (.cells VI 79)).alloc (.cells (Qc 0 false false 0) 81)).setRow w5.heap.size VI).heap[w5.heap.size+1]?=some (.cells (Qc 0 false false 0) 81 (0,0)):=(by rw [setRow_other _ _ _ _ Zo];have h:=Z7 (w5.alloc (.cells VI 79)) (.cells (Qc 0 false false 0) 81);rw [bh] at h;exact h);have bF:=Zh (bE.o.trans (Lj.mono bE.o.size));have Gd:=Zh hit;clear hit Lj)|(with_reducible refine ZU 79 (.tmp 9) (.tmp 50) rfl ?_;refine ZW rfl 79 (.tmp 9) (.tmp 50) rfl rfl w5.heap.size VI rfl rfl 79 VI hzp ZB ZB ZB ?_)|(with_reducible refine ZU 81 (.tmp 10) (.tmp 51) rfl ?_;refine ZW rfl 81 (.tmp 10) (.tmp 51) rfl rfl (w5.heap.size+1) (Qc 0 false false 0) rfl rfl 81 (Qc 0 false false 0) eY ZB ZB ZB ?_))
   have bG:Hid (Below w5 w5 ((((w5.alloc (.cells VI 79)).alloc (.cells (Qc 0 false false 0) 81)).setRow w5.heap.size VI).setRow (w5.heap.size+1) (Qc 0 false false 0))):=Z3 (Z3 (ZC (Z' w5 _) (Zw _) _) (Zw _) _) (IP _) _
   have mS:=Zh (Gd.o.below bG.o)
   have iZ:Hid (Below w1 w1 ((((w5.alloc (.cells VI 79)).alloc (.cells (Qc 0 false false 0) 81)).setRow w5.heap.size VI).setRow (w5.heap.size+1) (Qc 0 false false 0))):=bF.o.trans (bG.o.mono bF.o.size)
   clear hzp eY bh bG Gd bF CF bE
   generalize ((((w5.alloc (.cells VI 79)).alloc (.cells (Qc 0 false false 0) 81)).setRow w5.heap.size VI).setRow (w5.heap.size+1) (Qc 0 false false 0))=w6 at *
   obtain ⟨LV,hLV,Z0,iw⟩:=mS.o
   obtain ⟨va,vc,pQ⟩:=Row.form Z0
   subst pQ
   have hlen:LV.length≤8:=by have h:=P8.o.2;rw [hLV,Tx] at h;exact h
   have eX:=Z7 w6 (.cells Xv 100)
   go_upto_region 11 with (with_reducible refine ZU 100 (.tmp 12) (.tmp 54) rfl ?_;refine ZW rfl 100 (.tmp 12) (.tmp 54) rfl rfl w6.heap.size (Qm 0 0 0 0 false 0 0 0 0 none 0 0 false 0 none 0 0 none 0 0 0 0 false false 0 va LV.length vc none 0 0 0) rfl rfl 100 Xv eX ZB ZB ZB ?_)
   have dL:Below w6 w6 ((w6.alloc (.cells Xv 100)).setRow w6.heap.size (Qm 0 0 0 0 false 0 0 0 0 none 0 0 false 0 none 0 0 none 0 0 0 0 false false 0 va LV.length vc none 0 0 0)):=Z3 (Z' w6 _) (Zw _) _
   have oY:Below w1 w1 ((w6.alloc (.cells Xv 100)).setRow w6.heap.size (Qm 0 0 0 0 false 0 0 0 0 none 0 0 false 0 none 0 0 none 0 0 0 0 false false 0 va LV.length vc none 0 0 0)):=iZ.o.trans (dL.mono iZ.o.size)
   have HDL0:Hid (DL w ((w6.alloc (.cells Xv 100)).setRow w6.heap.size (Qm 0 0 0 0 false 0 0 0 0 none 0 0 false 0 none 0 0 none 0 0 0 0 false false 0 va LV.length vc none 0 0 0)) g b w6.heap.size ep (Qa kd peer src ly nm sa sl sc ba bl bc) (.slice va LV.length vc) LV (.slice none 0 0) 0 (.slice none 0 0) [] R):=
    ⟨Fr.Z8 _ (R4.o.trans (oY.mono R4.o.size)),(oY.block _ (ZV J9.o)).trans J9.o,(oY.block _ (ZV HZ.o)).trans HZ.o,setRow_heap _ _ _ _ _ _ eX,MG.below ⟨Z0,iw⟩ dL,Ua _ _ _ _,Bu.o.below oY,Pb (ZV HZ.o) iZ.o.size,W9,Bz⟩
   clear eX dL oY Z0 iw mS iZ
   generalize ((w6.alloc (.cells Xv 100)).setRow w6.heap.size (Qm 0 0 0 0 false 0 0 0 0 none 0 0 false 0 none 0 0 none 0 0 0 0 false false 0 va LV.length vc none 0 0 0))=w7 at *
   generalize w6.heap.size=k at *
   have fQ:Hid (∀ j,Inv (ZE peer (IL.take j) R).1.2∧Wa (ZE peer (IL.take j) R).1.2∧(ZE peer (IL.take j) R).1.1.length≤3000*(IL.take j).length∧0≤(ZE peer (IL.take j) R).2∧(ZE peer (IL.take j) R).2≤1000*(IL.take j).length):=fun j=>Rg peer (IL.take j) R hI hS (fun i hi=>P8.o.1 i (List.mem_of_mem_take hi))
   have fS:=Zh hLV
   go_wp2_with fail
   go_loopw [57] (fun s57 w'=>∃ (j:Nat) (tv:Value),j≤LV.length∧s57 = .int .i64 (j:Int)∧DL w w' g b k ep (Qa kd peer src ly nm sa sl sc ba bl bc) (.slice va LV.length vc) LV tv (ZE peer (IL.take j) R).2 tv (ZE peer (IL.take j) R).1.1 (ZE peer (IL.take j) R).1.2) (fun s57 _=>LV.length-(intOf s57).toNat)
   case atStart=>exact ⟨0,.slice none 0 0,Zo,rfl,HDL0.o⟩
   case round=>
    obtain ⟨j,tv,hjL,rfl,u7⟩:=hrel
    have uB:=Zh u7
    clear HDL0
    by_cases S4:j<LV.length
    ·obtain ⟨ta,tc,pO,-⟩:=Row.Z6 u7.own
     subst pO
     obtain ⟨g',off',e2,Vc⟩:=xu u7.its.row Zo
     cases e2
     have hxj:LV[j]?=some LV[j]:=U7 S4
     have Vc:=Vc j _ hxj
     have ML:=u7.its.each LV[j] (Ot S4)
     have V_:Te LV[j].i:=P8.o.1 _ (by rw [fS.o];exact wD.2 ⟨_,Ot S4,rfl⟩)
     have hTK:IL.take (j+1)=IL.take j++[LV[j].i]:=Rt (by rw [fS.o,List.getElem?_map,hxj];rfl)
     generalize LV[j]=x at *
     clear hxj
     obtain ⟨i,bv,gv,pv⟩:=x
     obtain ⟨xa,xc,wQ⟩:=Row.form ML.b
     obtain ⟨ga,gc,wX⟩:=Row.form ML.g
     obtain ⟨pa,pc,Mr⟩:=Row.form ML.p
     dsimp only at wQ wX Mr V_ hTK
     subst wQ;subst wX;subst Mr
     have KQ:wr.rangeAt g' (off'+j*10) (Jo i xa xc ga gc pa pc):=fun m v hm=>(Vc m nI).trans hm
     have J7:=Zh hTK
     have Mb:=Zh (OH peer i (IL.take j) R)
     have yL:=Zh ML
     have HOKI:=Zh V_
     obtain ⟨eT,hv2,hv3,hv4,hv5⟩:=fQ.o j
     rw [Tg] at hv3 hv5
     have Al:(j:Int)<(LV.length:Int):=Ou.2 S4
     have hz:=Z7 wr (.cells YY 173)
     have Ol:=setRow_heap _ _ _ (Jo i xa xc ga gc pa pc) _ _ hz
     have X6:Hid (Below wr wr ((wr.alloc (.cells YY 173)).setRow wr.heap.size (Jo i xa xc ga gc pa pc))):=Z3 (Z' wr _) (Zw _) _
     clear Vc ML V_ hTK u7
     go_upto_region 14 with (first|(with_reducible refine Y8 173 (.tmp 59) rfl ?_;refine wpList_load_mid rfl 173 (.tmp 59) rfl g' (off'+j*10) rfl (Jo i xa xc ga gc pa pc) _ KQ Tryz.underlying173 rfl ZB ?_)|(with_reducible refine ZU 173 (.tmp 14) (.tmp 60) rfl ?_;refine ZW rfl 173 (.tmp 14) (.tmp 60) rfl rfl wr.heap.size (Jo i xa xc ga gc pa pc) rfl rfl 173 YY hz ZB ZB ZB ?_))
     clear hz KQ
     have jg:=Zh (uB.o.below X6.o)
     have HIR2:=Zh (yL.o.below X6.o)
     generalize ((wr.alloc (.cells YY 173)).setRow wr.heap.size (Jo i xa xc ga gc pa pc))=w2 at *
     clear uB yL X6
     generalize ZE peer (IL.take j) R=G at *
     obtain ⟨⟨G1,G2⟩,gu⟩:=G
     dsimp only at Mb jg eT hv2 hv3 hv4 hv5
     have CI:Hid (Calls Tryz.prog 108 (Jh (some ⟨b,0,none⟩) peer (Jo i xa xc ga gc pa pc)) w2.drew fun e w'=>(∃ v,e = .returned (.tuple #[v,.int .i64 (Yj G2 peer i).2])∧YG w' v (Yj G2 peer i).1.1)∧ZT w' b (Yj G2 peer i).1.2∧Fr w2.drew.heap.size (· = b) w2.drew w'):=vV b G2 peer ⟨i,.slice xa i.blocks.length xc,.slice ga i.gone.length gc,.slice pa i.XF.length pc⟩ w2.drew (jg.o.R8.room.below (YH _ _).drew) eT hv2 HOKI.o (HIR2.o.below (YH _ _).drew)
     have HIO:=Kp eT hv2 peer HOKI.o
     obtain ⟨-,-,FD,hy2,hy3⟩:=HIO
     generalize Yj G2 peer i=Y at *
     obtain ⟨⟨Y1,Y2⟩,yu⟩:=Y
     dsimp only at Mb CI FD hy2 hy3
     have Zz:Hid (∀ w' R',DL w w' g b k ep (Qa kd peer src ly nm sa sl sc ba bl bc) (.slice (some ⟨g',off',none⟩) LV.length vc) LV (.slice ta G1.length tc) gu (.slice ta G1.length tc) G1 R'→w'.cell? ⟨g,0,none⟩=some (.pointer (some ⟨b,0,none⟩))∧w'.cell? ⟨w,1,none⟩=some (.int .i64 peer)):=fun w' R' h=>⟨h.R8.cells.1,Zc h.op 1 rfl⟩
     have mL:=Zh (jg.o.below (YH _ _).drew)
     refine Sd ?_
     refine wp_region_held_drew (S:=(fun w'=>w'.cell? ⟨g,0,none⟩=some (.pointer (some ⟨b,0,none⟩))∧w'.cell? ⟨w,1,none⟩=some (.int .i64 peer))) ZB ?_ (fun X_=>?_)
     ·(try dsimp only)
      exact Zz.o _ _ mL.o
     refine YA 0 (h:=YA 1 (h:=YA 2 (h:=YA 3 (h:=YA 4 (h:=YA 5 (h:=?_))))))
     refine Si 6 (h:=fun K hK=>?_)
     refine RT Zr 173 (.tmp 14) Zr wr.heap.size Zr 173 (Jo i xa xc ga gc pa pc) (0,0) _ Ol Tryz.underlying173 rfl ZB ?_
     refine hK.out _ _ ?_ (fun XC=>?_)
     ·(try dsimp only)
      first|exact Zz.o _ _ jh.o|exact Zz.o _ _ mL.o
     clear hK K
     try simp only [Z_.pt]
     refine Si 7 (h:=fun K hK=>?_)
     go_simp
     refine CI.o.mono ?_
     rintro e w4 ⟨⟨yv,rfl,S8⟩,Xt,Wx⟩
     obtain ⟨ya,yc,hyv,-⟩:=id S8
     subst hyv
     have jh:=Zh (mL.o.item Xt Wx)
     have F4:=Zh S8
     clear S8 Xt Wx
     go_wp2_with fail
     refine hK.out _ _ ?_ (fun VE=>?_)
     ·(try dsimp only)
      first|exact Zz.o _ _ jh.o|exact Zz.o _ _ mL.o
     clear hK K
     try simp only [Z_.pt]
     refine YA 8 (h:=YA 9 (h:=YA 10 (h:=YA 11 (h:=YA 12 (h:=?_)))))
     refine wpAnyH_done ZB ?_ _
     refine QY ?_
     clear X_ XC VE Zz CI jg mL Ol HIR2
     go_upto_region 15 with fail
     have hw15:IntKind.i64.wrap (gu+yu)=gu+yu:=Ty _ Zo
     have Ff:=Zh (jh.o.below (YH _ _).drew)
     obtain ⟨k20,k21,-,-⟩:=Ff.o.facts
     obtain ⟨m20,m21,-,-⟩:=jh.o.facts
     refine Sd ?_
     refine wp_region_held_drew (S:=(fun w'=>True)) ZB ?_ (fun X_=>?_)
     ·(try dsimp only)
      try trivial
     refine YA 0 (h:=YA 2 (h:=YA 4 (h:=YA 6 (h:=?_))))
     refine wpAnyH_ready (rs:=[1,5]) ZB Zi ?_
     refine AllReadyH.cons (i:=1) rfl (fun K hK=>?_) ?_
     ·skip
      go_simp
      refine hK.out _ _ ?_ (fun XC=>?_)
      ·(try dsimp only)
       try trivial
      clear hK K
      try simp only [Z_.pt]
      refine wpAnyH_ready (rs:=[3,5]) ZB Zi ?_
      refine AllReadyH.cons (i:=3) rfl (fun K hK=>?_) ?_
      ·skip
       have nr:=Zh (F4.o.below (YH _ _).drew)
       refine Zp Zr (.tmp 73) (.tmp 74) 98 Zr w.heap.size XP _ G1.length (G1.flatMap Z9) Zr Ff.o.own _ Y1.length (Y1.flatMap Z9) Zr nr.o (VZ _) (Yc _) Zo Zo ?_ ?_
       ·have:=Ff.o.fr.size;omega
       intro v' w6 HO HG
       have NV:Hid (w6.ownsRow w 158 5 v' (G1++Y1).length ((G1++Y1).flatMap Z9)):=jK
       obtain ⟨na,nc,NZ,-⟩:=Row.Z6 NV.o
       subst NZ
       have zl:=Zh (Ff.o.grown HG.o NV.o)
       obtain ⟨d20,d21,f20,f21⟩:=zl.o.facts
       refine hK.out _ _ ?_ (fun VE=>?_)
       ·(try dsimp only)
        try trivial
       clear hK K
       try simp only [Z_.pt]
       refine Si 5 (h:=fun K hK=>?_)
       go_simp
       refine hK.out _ _ ?_ (fun OD=>?_)
       ·(try dsimp only)
        try trivial
       clear hK K
       try simp only [Z_.pt]
       refine YA 7 (h:=YA 8 (h:=?_))
       refine Si 9 (h:=fun K hK=>?_)
       go_simp
       have zm:=Zh (zl.o.set 20 (.slice na (G1++Y1).length nc) (.slice na (G1++Y1).length nc) gu rfl)
       obtain ⟨h20,h21,g20,g21⟩:=zm.o.facts
       refine hK.out _ _ ?_ (fun GP=>?_)
       ·(try dsimp only)
        try trivial
       clear hK K
       try simp only [Z_.pt]
       refine YA 10 (h:=?_)
       refine Si 11 (h:=fun K hK=>?_)
       go_simp
       have bM:=Zh (zm.o.set 21 (.int .i64 (gu+yu)) (.slice na (G1++Y1).length nc) (gu+yu) rfl)
       refine hK.out _ _ ?_ (fun GQ=>?_)
       ·(try dsimp only)
        try trivial
       exact cI
      refine AllReadyH.cons (i:=5) rfl (fun K hK=>?_) AllReadyH.nil
      go_simp
      refine hK.out _ _ ?_ (fun oP=>?_)
      ·(try dsimp only)
       try trivial
      clear hK K
      try simp only [Z_.pt]
      refine YA 7 (h:=?_)
      refine Si 3 (h:=fun K hK=>?_)
      have nr:=Zh (F4.o.below (YH _ _).drew)
      refine Zp Zr (.tmp 73) (.tmp 74) 98 Zr w.heap.size XP _ G1.length (G1.flatMap Z9) Zr Ff.o.own _ Y1.length (Y1.flatMap Z9) Zr nr.o (VZ _) (Yc _) Zo Zo ?_ ?_
      ·have:=Ff.o.fr.size;omega
      intro v' w6 HO HG
      have NV:Hid (w6.ownsRow w 158 5 v' (G1++Y1).length ((G1++Y1).flatMap Z9)):=jK
      obtain ⟨na,nc,NZ,-⟩:=Row.Z6 NV.o
      subst NZ
      have zl:=Zh (Ff.o.grown HG.o NV.o)
      obtain ⟨d20,d21,f20,f21⟩:=zl.o.facts
      refine hK.out _ _ ?_ (fun dE=>?_)
      ·(try dsimp only)
       try trivial
      clear hK K
      try simp only [Z_.pt]
      refine YA 8 (h:=?_)
      refine Si 9 (h:=fun K hK=>?_)
      go_simp
      have zm:=Zh (zl.o.set 20 (.slice na (G1++Y1).length nc) (.slice na (G1++Y1).length nc) gu rfl)
      obtain ⟨h20,h21,g20,g21⟩:=zm.o.facts
      refine hK.out _ _ ?_ (fun dF=>?_)
      ·(try dsimp only)
       try trivial
      clear hK K
      try simp only [Z_.pt]
      refine YA 10 (h:=?_)
      refine Si 11 (h:=fun K hK=>?_)
      go_simp
      have bM:=Zh (zm.o.set 21 (.int .i64 (gu+yu)) (.slice na (G1++Y1).length nc) (gu+yu) rfl)
      refine hK.out _ _ ?_ (fun dG=>?_)
      ·(try dsimp only)
       try trivial
      exact cI
     refine AllReadyH.cons (i:=5) rfl (fun K hK=>?_) AllReadyH.nil
     go_simp
     refine hK.out _ _ ?_ (fun Cv=>?_)
     ·(try dsimp only)
      try trivial
     clear hK K
     try simp only [Z_.pt]
     refine YA 7 (h:=?_)
     refine Si 1 (h:=fun K hK=>?_)
     go_simp
     refine hK.out _ _ ?_ (fun Cw=>?_)
     ·(try dsimp only)
      try trivial
     clear hK K
     try simp only [Z_.pt]
     refine Si 3 (h:=fun K hK=>?_)
     have nr:=Zh (F4.o.below (YH _ _).drew)
     refine Zp Zr (.tmp 73) (.tmp 74) 98 Zr w.heap.size XP _ G1.length (G1.flatMap Z9) Zr Ff.o.own _ Y1.length (Y1.flatMap Z9) Zr nr.o (VZ _) (Yc _) Zo Zo ?_ ?_
     ·have:=Ff.o.fr.size;omega
     intro v' w6 HO HG
     have NV:Hid (w6.ownsRow w 158 5 v' (G1++Y1).length ((G1++Y1).flatMap Z9)):=jK
     obtain ⟨na,nc,NZ,-⟩:=Row.Z6 NV.o
     subst NZ
     have zl:=Zh (Ff.o.grown HG.o NV.o)
     obtain ⟨d20,d21,f20,f21⟩:=zl.o.facts
     refine hK.out _ _ ?_ (fun Cx=>?_)
     ·(try dsimp only)
      try trivial
     clear hK K
     try simp only [Z_.pt]
     refine YA 8 (h:=?_)
     refine Si 9 (h:=fun K hK=>?_)
     go_simp
     have zm:=Zh (zl.o.set 20 (.slice na (G1++Y1).length nc) (.slice na (G1++Y1).length nc) gu rfl)
     obtain ⟨h20,h21,g20,g21⟩:=zm.o.facts
     refine hK.out _ _ ?_ (fun Cy=>?_)
     ·(try dsimp only)
      try trivial
     clear hK K
     try simp only [Z_.pt]
     refine YA 10 (h:=?_)
     refine Si 11 (h:=fun K hK=>?_)
     go_simp
     have bM:=Zh (zm.o.set 21 (.int .i64 (gu+yu)) (.slice na (G1++Y1).length nc) (gu+yu) rfl)
     refine hK.out _ _ ?_ (fun uU=>?_)
     ·(try dsimp only)
      try trivial
     exact cI
    ·have MM:j=LV.length:=by omega
     have hT:IL.take j=IL:=by rw [MM,fS.o];exact F5 (by rw [Tx];exact Zw _)
     rw [hT] at uB
     obtain ⟨ta,tc,pO,-⟩:=Row.Z6 uB.o.own
     subst pO
     clear u7 fQ hT
     generalize ZE peer IL R=G at *
     obtain ⟨⟨G1,G2⟩,gu⟩:=G
     dsimp only at HX uB
     have hk:=uB.o.Za
     unfold DF at hk
     have CC:=Zh (JE g (.pointer (some ⟨b,0,none⟩)) ep (Qm 0 0 0 0 false 0 0 0 0 none 0 0 false 0 none 0 0 none 0 0 0 0 false false 0 va LV.length vc ta G1.length tc gu) wr uB.o.R8.Za h0 h9 rfl ZB)
     have cg:Hid (Yh wr ((((Qm 0 0 0 0 false 0 0 0 0 none 0 0 false 0 none 0 0 none 0 0 0 0 false false 0 va LV.length vc ta G1.length tc gu):List Value).set 0 (.int .i64 2)).set 2 (.int .i64 (ep+1))) (Ul (ep+1) IL G1 gu)):=⟨_,_,_,_,_,rfl,Vt.nil _,⟨LV,fS.o,uB.o.its⟩,Row.Z6 uB.o.own⟩
     have fJ:=Zh uB.o.R8.apart
     have hzr:=uB.o.z
     generalize Sg:((((Qm 0 0 0 0 false 0 0 0 0 none 0 0 false 0 none 0 0 none 0 0 0 0 false false 0 va LV.length vc ta G1.length tc gu):List Value).set 0 (.int .i64 2)).set 2 (.int .i64 (ep+1)))=cs at *
     clear Sg
     go_wp2_with (first|(with_reducible refine Y8 100 (.tmp 12) rfl ?_;refine Y9 rfl 100 (.tmp 12) rfl k rfl 100 (Qm 0 0 0 0 false 0 0 0 0 none 0 0 false 0 none 0 0 none 0 0 0 0 false false 0 va LV.length vc ta G1.length tc gu) (0,0) _ hk Tryz.underlying100 rfl ZB ?_)|(go_at_call 79;refine CC.o.mono ?_;rintro e w5 ⟨rfl,dV,sX⟩;have Ie:=Zh sX;have JR:=(sX.block (w.heap.size+1) (ZV hzr) Zo).trans hzr;have J7:Hid (Yh w5 cs (Ul (ep+1) IL G1 gu)):=cg.o.fr sX (fun k hk=>fJ.o k (Wi hk));have HD5:Hid (Yd w5 g b G2 (ep+1)):=⟨dV,uB.o.R8.room.fr sX (Zw _) (fun h=>wW (Eq.symm h)) (fun k c fr hk=>fJ.o.ne Zi k c fr (Wi hk))⟩;have hi:=QM J7.o;have hold:=QL J7.o;have Pr:=J7.o.one;clear dV sX CC)|(with_reducible refine ZU 100 (.tmp 4) (.tmp 85) rfl ?_;refine ZW rfl 100 (.tmp 4) (.tmp 85) rfl rfl (w.heap.size+1) cs.toArray rfl rfl 100 Xv JR hi hold Pr ?_))
     refine VJ (v:= .agg cs.toArray) ?_ rfl ?_
     ·exact nU
     rw [HX.o]
     refine ⟨⟨cs,rfl,J7.o.setRow JR _⟩,HD5.o.setRow JR Zo Zo _,?_⟩
     exact Mj (uB.o.fr.trans (Ie.o.mono uB.o.fr.size (fun _ _ h=>Wi h))) (IP _) _
  ·exact Yx38
 ·exact Yx34
theorem Cl (g b:Nat) (R:Room) (ep kd peer src ly:Int) (nm:ByteArray) (sa ba:Option Addr) (sl sc bl bc:Nat) (l:List UInt8) (w:World) (hD:Yd w g b R ep) (hI:Inv R) (hS:Wa R) (h0:0≤ep) (h9:ep<1000000000) (hv:X9 w (.slice ba bl bc) l) :
  Calls Tryz.prog 76 (Qi (some ⟨g,0,none⟩) (Qa kd peer src ly nm sa sl sc ba bl bc)) w fun e w'=>(∃ cs:List Value,e = .returned (.agg cs.toArray)∧Yh w' cs (YF R ep peer l).1.1)∧Yd w' g b (YF R ep peer l).1.2 (YF R ep peer l).2∧Fr w (fun k=>k=b∨k=g) w w':=by
 by_cases h3:192≤at8 l 1∧at8 l 1≤223
 ·exact Fs g b R ep kd peer src ly nm sa ba sl sc bl bc l w hD hI hS h0 h9 hv h3
 ·exact Gz g b R ep kd peer src ly nm sa ba sl sc bl bc l w hD hI hS.short hv h3
end Go.Proofs.By
