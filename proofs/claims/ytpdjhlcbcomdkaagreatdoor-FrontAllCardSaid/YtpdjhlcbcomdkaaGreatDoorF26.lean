/- Part of a proof. -/
import Derived.Test.YtpdjhlcbcomdkaaGreatDoorF25
set_option linter.unusedVariables false
set_option linter.unusedSimpArgs false
set_option maxRecDepth 100000
set_option maxHeartbeats 16000000
open Go Go.Q Go.Qr
namespace Go.Proofs.By
open Go.RowKit Go.Proofs.Heap
open Go.Proofs.Rm (YM YE Room Z4 Inv WZ Zz U6 Z_ XU Wf Yk Yj Yw)
theorem Pp {w w':World} {base:Nat} {e:TypeId} {size:Nat} {v:Value} {n:Nat} {xs:List Value} (h:w.ownsRow base e size v n xs) (hb:∀ k,v.ownBlock=some k→w'.heap[k]?=w.heap[k]?):w'.ownsRow base e size v n xs:=by
 obtain ⟨hl,h⟩:=h
 refine ⟨hl,?_⟩
 rcases h with h|⟨g,cap,cur,rfl,hg,hh,h1,h2,h3,h4⟩
 ·exact Wc h
 ·exact Wj ⟨g,cap,cur,rfl,hg,(hb g rfl).trans hh,h1,h2,h3,h4⟩
theorem M_.below {w w':World} {v:Value} {L:List Sz} (h:M_ w v L) (hb:Below w w w'):M_ w' v L:=⟨h.row.below hb,fun x hx=>(h.each x hx).below hb⟩
theorem M_.fr {w w':World} {v:Value} {L:List Sz} {S:Nat→Prop} (h:M_ w v L) (hf:Fr w S w w') (hS:N7 w S):M_ w' v L:=
 ⟨Row.fr h.row hf (ZB _) (hS.ne Zi),fun x hx=>⟨Row.fr (h.each x hx).b hf (ZB _) (hS.ne Zi),Row.fr (h.each x hx).g hf (ZB _) (hS.ne Zi),Row.fr (h.each x hx).p hf (ZB _) (hS.ne Zi)⟩⟩
def EG (iv tv u:Value):Array Value:=#[.int .i64 0,.int .i64 0,.int .i64 0,.int .i64 0,.bool false,.int .i64 0,.int .u16 0,.int .u32 0,.int .u32 0,.slice none 0 0,.bool false,.int .u16 0,.slice none 0 0,.slice none 0 0,.int .i64 0,.int .i64 0,.bool false,.bool false,.int .u16 0,iv,tv,u]
structure DL (w w':World) (g b k:Nat) (ep:Int) (oc:Array Value) (iv:Value) (LV:List Sz) (uo:Value) (cu:Int) (tv:Value) (ts:List YE) (Q:Room):Prop where
 fr:Fr w (fun j=>j=b∨j=g) w w'
 op:w'.heap[w.heap.size]?=some (.cells oc 32 (0,0))
 z:w'.heap[w.heap.size+1]?=some (.cells XQ 100 (0,0))
 Y8:w'.heap[k]?=some (.cells (EG iv uo (.int .i64 cu)) 100 (0,0))
 its:M_ w' iv LV
 own:w'.ownsRow w 158 5 tv ts.length (ts.flatMap Z_)
 VO:Yl w' g b Q ep
 kl:w.heap.size+1<k
 bl:b<w.heap.size
 gl:g<w.heap.size
section
variable {w w1 w2:World} {g b k:Nat} {ep:Int} {oc:Array Value} {iv:Value} {LV:List Sz} {uo:Value} {cu:Int} {tv:Value} {ts:List YE} {Q:Room}
theorem DL.below (h:DL w w1 g b k ep oc iv LV uo cu tv ts Q) (hb:Below w1 w1 w2):DL w w2 g b k ep oc iv LV uo cu tv ts Q:=
 ⟨h.fr.trans (Fr.Z9 _ (hb.mono h.fr.size)),(hb.block _ (ZQ h.op)).trans h.op,(hb.block _ (ZQ h.z)).trans h.z,(hb.block _ (ZQ h.Y8)).trans h.Y8,h.its.below hb,X9 h.own hb,h.VO.below hb,h.kl,h.bl,h.gl⟩
theorem DL.item (h:DL w w1 g b k ep oc iv LV uo cu tv ts Q) {Q':Room} (hr:Z4 w2 b Q') (hf:Fr w1 (· = b) w1 w2):DL w w2 g b k ep oc iv LV uo cu tv ts Q':=by
 have hb:=h.bl
 have hk:=h.kl
 exact ⟨h.fr.trans (hf.mono h.fr.size (fun _ _ h=>Wc h)),(hf.block _ (ZQ h.op) Zo).trans h.op,(hf.block _ (ZQ h.z) Zo).trans h.z,(hf.block _ (ZQ h.Y8) Zo).trans h.Y8,h.its.fr hf (fun j hj=>h.VO.apart j (Wc hj)),Yj h.own hf (fun j hj=>by have hj:j=b:=hj;omega),⟨(hf.block g (ZQ h.VO.Y8) h.VO.ne).trans h.VO.Y8,hr⟩,h.kl,h.bl,h.gl⟩
theorem DL.grown (h:DL w w1 g b k ep oc iv LV uo cu tv ts Q) (hg:w1.grownBy w2 tv.ownBlock) {tv':Value} {ts':List YE} (ho:w2.ownsRow w 158 5 tv' ts'.length (ts'.flatMap Z_)):DL w w2 g b k ep oc iv LV uo cu tv' ts' Q:=by
 have Xh:∀ {j c e f},w1.heap[j]?=some (.cells c e f)→e≠158→tv.ownBlock≠some j:=fun hj he ho=>X4 h.own he _ _ _ ho hj
 have hf:=WV hg
 have ht:∀ e,e≠158→∀ j c fr,tv.ownBlock=some j→w1.heap[j]?≠some (.cells c e fr):=fun e he=>X4 h.own he
 exact ⟨h.fr.grown hg h.fr.size (Yw h.own),(hg.block _ (ZQ h.op) (fun e=>Xh h.op Zd e.symm)).trans h.op,(hg.block _ (ZQ h.z) (fun e=>Xh h.z Zd e.symm)).trans h.z,(hg.block _ (ZQ h.Y8) (fun e=>Xh h.Y8 Zd e.symm)).trans h.Y8,
  ⟨Row.fr h.its.row hf (ZB _) (ht _ Zd),fun x hx=>(h.its.each x hx).lF hf (ht _ Zd) (ht _ Zd) (ht _ Zd)⟩,ho,
  ⟨(hg.block _ (ZQ h.VO.Y8) (fun e=>Xh h.VO.Y8 Zd e.symm)).trans h.VO.Y8,Z4.grown h.VO.room h.own hg h.bl Zd⟩,h.kl,h.bl,h.gl⟩
theorem DL.set (h:DL w w1 g b k ep oc iv LV uo cu tv ts Q) (o:Nat) (v bL:Value) (cu':Int) (hc:(EG iv uo (.int .i64 cu)).setIfInBounds o v=EG iv bL (.int .i64 cu')):DL w (w1.setCell ⟨k,o,none⟩ v) g b k ep oc iv LV bL cu' tv ts Q:=by
 have hk:=h.kl
 have hb:=h.bl
 have Fq:=h.gl
 have hf:Fr w1 (· = k) w1 (w1.setCell ⟨k,o,none⟩ v):=(Fr.refl _ _ _).setAt _ _
 have Jv:∀ e,100≠e→∀ j c fr,j=k→w1.heap[j]?≠some (.cells c e fr):=by
  intro e he j c fr hj hc
  rw [hj,h.Y8] at hc
  injection hc with hc
  injection hc with _ hc
  exact he hc
 have sA:=WA h.Y8 o v
 rw [hc] at sA
 exact ⟨h.fr.setCell (p:=⟨k,o,none⟩) (Wc (by show _≤k;omega)) _,(hf.block _ (ZQ h.op) Zo).trans h.op,(hf.block _ (ZQ h.z) Zo).trans h.z,sA,
  h.its.fr hf (fun j hj=>by have hj:j=k:=hj;subst hj;exact ⟨_,_,_,h.Y8,by decide,by decide,by decide,by decide,by decide,by decide,by decide⟩),
  Pp h.own (fun j hj=>by
   by_cases Ke:j=k
   ·subst Ke;exact absurd h.Y8 (X4 h.own Zd _ _ _ hj)
   ·exact Hk w1 ⟨k,o,none⟩ _ j Ke),
  ⟨(hf.block g (ZQ h.VO.Y8) Zo).trans h.VO.Y8,h.VO.room.fr hf (ZB _) Zo (Jv _ Zd)⟩,h.kl,h.bl,h.gl⟩
theorem DL.facts (h:DL w w1 g b k ep oc iv LV uo cu tv ts Q):w1.cell? ⟨k,20,none⟩=some uo∧w1.cell? ⟨k,21,none⟩=some (.int .i64 cu)∧w1.frozen? ⟨k,20,none⟩=false∧w1.frozen? ⟨k,21,none⟩=false:=
 ⟨Zc h.Y8 20 rfl,Zc h.Y8 21 rfl,ZI h.Y8 20,ZI h.Y8 21⟩
end
theorem Pr {α:Type} {l:List α} {k:Nat} {x:α} (h:l[k]?=some x):l.take (k+1)=l.take k++[x]:=by
 obtain ⟨h1,h2⟩:=List.getElem?_eq_some_iff.1 h
 rw [List.take_succ_eq_append_getElem h1,h2]
theorem Gw (g b:Nat) (R:Room) (ep kd peer src ly:Int) (nm:ByteArray) (sa ba:Option Addr) (sl sc bl bc:Nat) (l:List UInt8) (w:World) (hD:Yl w g b R ep) (hI:Inv R) (hS:WZ R) (h0:0≤ep) (h9:ep<1000000000) (hv:Yn w (.slice ba bl bc) l) (h3:192≤at8 l 1∧at8 l 1≤223) :
  Calls Tryz.prog 76 (Qf (some ⟨g,0,none⟩) (Qa kd peer src ly nm sa sl sc ba bl bc)) w fun e w'=>(∃ cs:List Value,e = .returned (.agg cs.toArray)∧YC w' cs (YZ R ep peer l).1.1)∧Yl w' g b (YZ R ep peer l).1.2 (YZ R ep peer l).2∧Fr w (fun k=>k=b∨k=g) w w':=by
 have HX:Hid (YZ R ep peer l=if (X0 l).2≠0 then ((Yt 3 (X0 l).2,R),ep) else if !Zz R peer then ((Yt 4 0,R),ep) else match (X0 l).1 with
  | .Ye p d=>((VS R ep peer p d,R),ep)
  | .X6 l=>((U7 (ep+1) l (ZG peer l R).1.1 (ZG peer l R).2,(ZG peer l R).1.2),ep+1)
  | .none=>((U7 (ep+1) [] [] 0,R),ep+1)):=rfl
 have M9:Hid ((X0 l).2=0→(X0 l).1 = .X6 (Yy l).1):=fun h=>NY h3 h
 have OB:=Zh (S3 l)
 have Fq:=hD.cells.2.2.2
 have XS:=hD.room.lt
 have Br:=hD.ne
 have FB:((w.alloc (.cells (Qa kd peer src ly nm sa sl sc ba bl bc) 32)).alloc (.cells XQ 100)).heap[w.heap.size]?=some (.cells (Qa kd peer src ly nm sa sl sc ba bl bc) 32 (0,0)):=by
  rw [(Z' _ _).block _ DI]
  exact Z5 w _
 have hz:((w.alloc (.cells (Qa kd peer src ly nm sa sl sc ba bl bc) 32)).alloc (.cells XQ 100)).heap[w.heap.size+1]?=some (.cells XQ 100 (0,0)):=by
  exact aY
 have TK:Below w w ((w.alloc (.cells (Qa kd peer src ly nm sa sl sc ba bl bc) 32)).alloc (.cells XQ 100)):=ZA (Z' w _) (ZB _) _
 have kq:=Zh hD
 have EU:Hid (Yl ((w.alloc (.cells (Qa kd peer src ly nm sa sl sc ba bl bc) 32)).alloc (.cells XQ 100)) g b R ep):=hD.below TK
 have CS:=Zh (zT _ l ((w.alloc (.cells (Qa kd peer src ly nm sa sl sc ba bl bc) 32)).alloc (.cells XQ 100)) (hv.below TK))
 have OC:=Zh FB
 have HZ:=Zh hz
 have T9:=Zh TK
 clear hD hv FB hz TK h3
 generalize YZ R ep peer l=X at *
 generalize X0 l=Y at *
 generalize (Yy l).1=IL at *
 obtain ⟨ev,er⟩:=Y
 dsimp only at HX M9 CS
 go_enter Tryz.func76,Tryz.ntmps76
 go_upto_region 2 with (go_at_call 105;refine CS.o.mono ?_;rintro e w2 ⟨⟨a,rfl,Ed⟩,Y0⟩;have ud:=Zh Ed;have XA:=Zh Y0;clear Ed Y0)
 clear CS
 generalize ((w.alloc (.cells (Qa kd peer src ly nm sa sl sc ba bl bc) 32)).alloc (.cells XQ 100))=w1 at *
 have ZC:Hid (∀ w',Below w1 w1 w'→w'.cell? ⟨g,0,none⟩=some (.pointer (some ⟨b,0,none⟩))∧w'.cell? ⟨w,1,none⟩=some (.int .i64 peer)):=fun w' h=>
  ⟨(EU.o.below h).cells.1,by rw [cell_of ((h.block w.heap.size (ZQ OC.o)).trans OC.o) 1];rfl⟩
 have Vj:Hid (∀ w' cs T,Below w w w'→YC w' cs T→X=((T,R),ep)→(∃ cs':List Value,Ending.returned (.agg cs.toArray) = .returned (.agg cs'.toArray)∧YC w' cs' X.1.1)∧Yl w' g b X.1.2 X.2∧Fr w (fun k=>k=b∨k=g) w w'):=fun w' cs T h1 h2 h3=>by
  rw [h3];exact ⟨⟨cs,rfl,h2⟩,kq.o.below h1,Fr.Z9 _ h1⟩
 by_cases SE:er=0
 ·subst SE
  rw [Z6 Zi] at HX
  have hpd:=M9.o rfl
  subst hpd
  dsimp only at HX
  have HJ:=Zh (U6 b R peer w2.drew ((EU.o.room.below XA.o).below (YG _ _).drew))
  go_upto_region 4 with fail
  refine QN ?_
  refine wp_region_held_drew (S:=(fun w'=>w'.cell? ⟨g,0,none⟩=some (.pointer (some ⟨b,0,none⟩))∧w'.cell? ⟨w,1,none⟩=some (.int .i64 peer))) Zg ?_ (fun Yb=>?_)
  ·(try dsimp only)
   exact ZC.o _ XA.o.drew
  refine YA 0 (h:=YA 1 (h:=YA 2 (h:=YA 3 (h:=YA 4 (h:=YA 5 (h:=?_))))))
  refine TR 6 (h:=fun K hK=>?_)
  go_simp
  refine HJ.o.mono ?_
  rintro e w' ⟨rfl,rfl⟩
  go_wp2_with fail
  refine hK.out _ _ ?_ (fun XX=>?_)
  ·(try dsimp only)
   exact ZC.o _ XA.o.drew
  clear hK K
  try simp only [Z3.pt]
  refine YA 7 (h:=?_)
  refine wpAnyH_done Zg ?_ _
  refine Py ?_
  clear Yb XX ZC
  have T_:Hid (Below w1 w1 w2.drew):=XA.o.drew
  have p8:Hid (yh w2.drew a (.X6 IL)):=ud.o.below (YG _ _).drew
  clear XA ud HJ
  generalize w2.drew=w3 at *
  clear w2
  by_cases hj:Zz R peer=true
  ·rw [hj,Z6 Zi] at HX
   rw [hj]
   have as1:=A4
   obtain ⟨iv,ha,hP⟩:=p8.o
   subst ha
   have hM:=Z5 w3 (.cells R7 97)
   have Ur:Hid (Below w3 w3 ((w3.alloc (.cells R7 97)).setRow w3.heap.size R7)):=Z0 (Z' w3 _) (ZB _) _
   have HP:=Zh hP
   clear p8 hP
   go_upto_region 9 with (with_reducible refine ZY 97 (.tmp 7) (.tmp 39) rfl ?_;refine ZW rfl 97 (.tmp 7) (.tmp 39) rfl rfl w3.heap.size R7 rfl rfl 97 R7 hM Zg Zg Zg ?_)
   clear hM
   generalize ((w3.alloc (.cells R7 97)).setRow w3.heap.size R7)=w4 at *
   have CF:=Zh (pX iv IL w4 (HP.o.below Ur.o) OB.o.1 (by have:=OB.o.2;omega))
   have fN:Hid (Below w1 w1 w4):=T_.o.trans (Ur.o.mono T_.o.size)
   clear T_ Ur HP
   go_upto_region 10 with (first|(go_at_call 107;refine CF.o.mono ?_;rintro e w5 ⟨⟨v',rfl,hit⟩,LM⟩;have fx:(w5.alloc (.cells Wi 79)).heap.size=w5.heap.size+1:=(by show (w5.heap.push _).size=_;rw [Rg]);have hzp:((w5.alloc (.cells Wi 79)).alloc (.cells (Qd 0 false false 0) 81)).heap[w5.heap.size]?=some (.cells Wi 79 (0,0)):=(by rw [(Z' _ _).block _ (by rw [fx];exact Nat.lt_succ_self _)];exact Z5 w5 _);have hzd:(((w5.alloc (.cells Wi 79)).alloc (.cells (Qd 0 false false 0) 81)).setRow w5.heap.size Wi).heap[w5.heap.size+1]?=some (.cells (Qd 0 false false 0) 81 (0,0)):=(by rw [setRow_other _ _ _ _ Zo];have h:=Z5 (w5.alloc (.cells Wi 79)) (.cells (Qd 0 false false 0) 81);rw [fx] at h;exact h);have fO:=Zh (fN.o.trans (LM.mono fN.o.size));have He:=Zh hit;clear hit LM)|(with_reducible refine ZY 79 (.tmp 9) (.tmp 50) rfl ?_;refine ZW rfl 79 (.tmp 9) (.tmp 50) rfl rfl w5.heap.size Wi rfl rfl 79 Wi hzp Zg Zg Zg ?_)|(with_reducible refine ZY 81 (.tmp 10) (.tmp 51) rfl ?_;refine ZW rfl 81 (.tmp 10) (.tmp 51) rfl rfl (w5.heap.size+1) (Qd 0 false false 0) rfl rfl 81 (Qd 0 false false 0) hzd Zg Zg Zg ?_))
   have fP:Hid (Below w5 w5 ((((w5.alloc (.cells Wi 79)).alloc (.cells (Qd 0 false false 0) 81)).setRow w5.heap.size Wi).setRow (w5.heap.size+1) (Qd 0 false false 0))):=Z0 (Z0 (ZA (Z' w5 _) (ZB _) _) (ZB _) _) (JK _) _
   have qg:=Zh (He.o.below fP.o)
   have mD:Hid (Below w1 w1 ((((w5.alloc (.cells Wi 79)).alloc (.cells (Qd 0 false false 0) 81)).setRow w5.heap.size Wi).setRow (w5.heap.size+1) (Qd 0 false false 0))):=fO.o.trans (fP.o.mono fO.o.size)
   clear hzp hzd fx fP He fO CF fN
   generalize ((((w5.alloc (.cells Wi 79)).alloc (.cells (Qd 0 false false 0) 81)).setRow w5.heap.size Wi).setRow (w5.heap.size+1) (Qd 0 false false 0))=w6 at *
   obtain ⟨LV,hLV,Z7,lR⟩:=qg.o
   obtain ⟨va,vc,oV⟩:=Row.form Z7
   subst oV
   have hlen:LV.length≤8:=by have h:=OB.o.2;rw [hLV,UM] at h;exact h
   have jU:=Z5 w6 (.cells XQ 100)
   go_upto_region 11 with (with_reducible refine ZY 100 (.tmp 12) (.tmp 54) rfl ?_;refine ZW rfl 100 (.tmp 12) (.tmp 54) rfl rfl w6.heap.size (Qm 0 0 0 0 false 0 0 0 0 none 0 0 false 0 none 0 0 none 0 0 0 0 false false 0 va LV.length vc none 0 0 0) rfl rfl 100 XQ jU Zg Zg Zg ?_)
   have iU:Below w6 w6 ((w6.alloc (.cells XQ 100)).setRow w6.heap.size (Qm 0 0 0 0 false 0 0 0 0 none 0 0 false 0 none 0 0 none 0 0 0 0 false false 0 va LV.length vc none 0 0 0)):=Z0 (Z' w6 _) (ZB _) _
   have rU:Below w1 w1 ((w6.alloc (.cells XQ 100)).setRow w6.heap.size (Qm 0 0 0 0 false 0 0 0 0 none 0 0 false 0 none 0 0 none 0 0 0 0 false false 0 va LV.length vc none 0 0 0)):=mD.o.trans (iU.mono mD.o.size)
   have HDL0:Hid (DL w ((w6.alloc (.cells XQ 100)).setRow w6.heap.size (Qm 0 0 0 0 false 0 0 0 0 none 0 0 false 0 none 0 0 none 0 0 0 0 false false 0 va LV.length vc none 0 0 0)) g b w6.heap.size ep (Qa kd peer src ly nm sa sl sc ba bl bc) (.slice va LV.length vc) LV (.slice none 0 0) 0 (.slice none 0 0) [] R):=
    ⟨Fr.Z9 _ (T9.o.trans (rU.mono T9.o.size)),(rU.block _ (ZQ OC.o)).trans OC.o,(rU.block _ (ZQ HZ.o)).trans HZ.o,setRow_heap _ _ _ _ _ _ jU,M_.below ⟨Z7,lR⟩ iU,Us _ _ _ _,EU.o.below rU,Px (ZQ HZ.o) mD.o.size,XS,Fq⟩
   clear jU iU rU Z7 lR qg mD
   generalize ((w6.alloc (.cells XQ 100)).setRow w6.heap.size (Qm 0 0 0 0 false 0 0 0 0 none 0 0 false 0 none 0 0 none 0 0 0 0 false false 0 va LV.length vc none 0 0 0))=w7 at *
   generalize w6.heap.size=k at *
   have ku:Hid (∀ j,Inv (ZG peer (IL.take j) R).1.2∧WZ (ZG peer (IL.take j) R).1.2∧(ZG peer (IL.take j) R).1.1.length≤3000*(IL.take j).length∧0≤(ZG peer (IL.take j) R).2∧(ZG peer (IL.take j) R).2≤1000*(IL.take j).length):=fun j=>Rz peer (IL.take j) R hI hS (fun i hi=>OB.o.1 i (List.mem_of_mem_take hi))
   have ky:=Zh hLV
   go_wp2_with fail
   go_loopw [57] (fun s57 w'=>∃ (j:Nat) (tv:Value),j≤LV.length∧s57 = .int .i64 (j:Int)∧DL w w' g b k ep (Qa kd peer src ly nm sa sl sc ba bl bc) (.slice va LV.length vc) LV tv (ZG peer (IL.take j) R).2 tv (ZG peer (IL.take j) R).1.1 (ZG peer (IL.take j) R).1.2) (fun s57 _=>LV.length-(intOf s57).toNat)
   case atStart=>exact ⟨0,.slice none 0 0,Zo,rfl,HDL0.o⟩
   case round=>
    obtain ⟨j,tv,hjL,rfl,Bo⟩:=hrel
    have wV:=Zh Bo
    clear HDL0
    by_cases Oh:j<LV.length
    ·obtain ⟨ta,tc,oU,-⟩:=Row.ZV Bo.own
     subst oU
     obtain ⟨g',off',e2,UO⟩:=zl Bo.its.row Zo
     cases e2
     have hxj:LV[j]?=some LV[j]:=VQ Oh
     have UO:=UO j _ hxj
     have Nh:=Bo.its.each LV[j] (Pw Oh)
     have VU:TP LV[j].i:=OB.o.1 _ (by rw [ky.o];exact yG.2 ⟨_,Pw Oh,rfl⟩)
     have hTK:IL.take (j+1)=IL.take j++[LV[j].i]:=Pr (by rw [ky.o,List.getElem?_map,hxj];rfl)
     generalize LV[j]=x at *
     clear hxj
     obtain ⟨i,bv,gv,pv⟩:=x
     obtain ⟨xa,xc,rW⟩:=Row.form Nh.b
     obtain ⟨ga,gc,yT⟩:=Row.form Nh.g
     obtain ⟨pa,pc,NR⟩:=Row.form Nh.p
     dsimp only at rW yT NR VU hTK
     subst rW;subst yT;subst NR
     have xN:wr.rangeAt g' (off'+j*10) (Jj i xa xc ga gc pa pc):=fun m v hm=>(UO m Yo18).trans hm
     have Pv:=Zh hTK
     have Lj:=Zh (Pe peer i (IL.take j) R)
     have Ap:=Zh Nh
     have HOKI:=Zh VU
     obtain ⟨jQ,dH,hv3,hv4,hv5⟩:=ku.o j
     rw [TU] at hv3 hv5
     have fk:(j:Int)<(LV.length:Int):=Gs.2 Oh
     have hz:=Z5 wr (.cells Y9 173)
     have OY:=setRow_heap _ _ _ (Jj i xa xc ga gc pa pc) _ _ hz
     have XA:Hid (Below wr wr ((wr.alloc (.cells Y9 173)).setRow wr.heap.size (Jj i xa xc ga gc pa pc))):=Z0 (Z' wr _) (ZB _) _
     clear UO Nh VU hTK Bo
     go_upto_region 14 with (first|(with_reducible refine Yp 173 (.tmp 59) rfl ?_;refine wpList_load_mid rfl 173 (.tmp 59) rfl g' (off'+j*10) rfl (Jj i xa xc ga gc pa pc) _ xN Tryz.underlying173 rfl Zg ?_)|(with_reducible refine ZY 173 (.tmp 14) (.tmp 60) rfl ?_;refine ZW rfl 173 (.tmp 14) (.tmp 60) rfl rfl wr.heap.size (Jj i xa xc ga gc pa pc) rfl rfl 173 Y9 hz Zg Zg Zg ?_))
     clear hz xN
     have mH:=Zh (wV.o.below XA.o)
     have HIR2:=Zh (Ap.o.below XA.o)
     generalize ((wr.alloc (.cells Y9 173)).setRow wr.heap.size (Jj i xa xc ga gc pa pc))=w2 at *
     clear wV Ap XA
     generalize ZG peer (IL.take j) R=G at *
     obtain ⟨⟨G1,G2⟩,gu⟩:=G
     dsimp only at Lj mH jQ dH hv3 hv4 hv5
     have CI:Hid (Calls Tryz.prog 108 (Jg (some ⟨b,0,none⟩) peer (Jj i xa xc ga gc pa pc)) w2.drew fun e w'=>(∃ v,e = .returned (.tuple #[v,.int .i64 (Yr G2 peer i).2])∧YM w' v (Yr G2 peer i).1.1)∧Z4 w' b (Yr G2 peer i).1.2∧Fr w2.drew.heap.size (· = b) w2.drew w'):=yA b G2 peer ⟨i,.slice xa i.blocks.length xc,.slice ga i.gone.length gc,.slice pa i.XV.length pc⟩ w2.drew (mH.o.VO.room.below (YG _ _).drew) jQ dH HOKI.o (HIR2.o.below (YG _ _).drew)
     have HIO:=KS jQ dH peer HOKI.o
     obtain ⟨-,-,GM,hy2,hy3⟩:=HIO
     generalize Yr G2 peer i=Y at *
     obtain ⟨⟨Y1,Y2⟩,yu⟩:=Y
     dsimp only at Lj CI GM hy2 hy3
     have ZC:Hid (∀ w' R',DL w w' g b k ep (Qa kd peer src ly nm sa sl sc ba bl bc) (.slice (some ⟨g',off',none⟩) LV.length vc) LV (.slice ta G1.length tc) gu (.slice ta G1.length tc) G1 R'→w'.cell? ⟨g,0,none⟩=some (.pointer (some ⟨b,0,none⟩))∧w'.cell? ⟨w,1,none⟩=some (.int .i64 peer)):=fun w' R' h=>⟨h.VO.cells.1,Zc h.op 1 rfl⟩
     have p7:=Zh (mH.o.below (YG _ _).drew)
     refine QN ?_
     refine wp_region_held_drew (S:=(fun w'=>w'.cell? ⟨g,0,none⟩=some (.pointer (some ⟨b,0,none⟩))∧w'.cell? ⟨w,1,none⟩=some (.int .i64 peer))) Zg ?_ (fun Yb=>?_)
     ·(try dsimp only)
      exact ZC.o _ _ p7.o
     refine YA 0 (h:=YA 1 (h:=YA 2 (h:=YA 3 (h:=YA 4 (h:=YA 5 (h:=?_))))))
     refine TR 6 (h:=fun K hK=>?_)
     refine Sk Zr 173 (.tmp 14) Zr wr.heap.size Zr 173 (Jj i xa xc ga gc pa pc) (0,0) _ OY Tryz.underlying173 rfl Zg ?_
     refine hK.out _ _ ?_ (fun XX=>?_)
     ·(try dsimp only)
      first|exact ZC.o _ _ mI.o|exact ZC.o _ _ p7.o
     clear hK K
     try simp only [Z3.pt]
     refine TR 7 (h:=fun K hK=>?_)
     go_simp
     refine CI.o.mono ?_
     rintro e w4 ⟨⟨yv,rfl,S0⟩,XE,Xm⟩
     obtain ⟨ya,yc,hyv,-⟩:=id S0
     subst hyv
     have mI:=Zh (p7.o.item XE Xm)
     have DD:=Zh S0
     clear S0 XE Xm
     go_wp2_with fail
     refine hK.out _ _ ?_ (fun Wo=>?_)
     ·(try dsimp only)
      first|exact ZC.o _ _ mI.o|exact ZC.o _ _ p7.o
     clear hK K
     try simp only [Z3.pt]
     refine YA 8 (h:=YA 9 (h:=YA 10 (h:=YA 11 (h:=YA 12 (h:=?_)))))
     refine wpAnyH_done Zg ?_ _
     refine Py ?_
     clear Yb XX Wo ZC CI mH p7 OY HIR2
     go_upto_region 15 with fail
     have hw15:IntKind.i64.wrap (gu+yu)=gu+yu:=Ua _ Zo
     have Gk:=Zh (mI.o.below (YG _ _).drew)
     obtain ⟨k20,k21,-,-⟩:=Gk.o.facts
     obtain ⟨m20,m21,-,-⟩:=mI.o.facts
     refine QN ?_
     refine wp_region_held_drew (S:=(fun w'=>True)) Zg ?_ (fun Yb=>?_)
     ·(try dsimp only)
      try trivial
     refine YA 0 (h:=YA 2 (h:=YA 4 (h:=YA 6 (h:=?_))))
     refine wpAnyH_ready (rs:=[1,5]) Zg Zi ?_
     refine AllReadyH.cons (i:=1) rfl (fun K hK=>?_) ?_
     ·skip
      go_simp
      refine hK.out _ _ ?_ (fun XX=>?_)
      ·(try dsimp only)
       try trivial
      clear hK K
      try simp only [Z3.pt]
      refine wpAnyH_ready (rs:=[3,5]) Zg Zi ?_
      refine AllReadyH.cons (i:=3) rfl (fun K hK=>?_) ?_
      ·skip
       have qA:=Zh (DD.o.below (YG _ _).drew)
       refine Zw Zr (.tmp 73) (.tmp 74) 98 Zr w.heap.size XU _ G1.length (G1.flatMap Z_) Zr Gk.o.own _ Y1.length (Y1.flatMap Z_) Zr qA.o (Wf _) (Yk _) Zo Zo ?_ ?_
       ·have:=Gk.o.fr.size;omega
       intro v' w6 HO HG
       have Mv:Hid (w6.ownsRow w 158 5 v' (G1++Y1).length ((G1++Y1).flatMap Z_)):=gJ
       obtain ⟨na,nc,Ig,-⟩:=Row.ZV Mv.o
       subst Ig
       have AL:=Zh (Gk.o.grown HG.o Mv.o)
       obtain ⟨d20,d21,f20,f21⟩:=AL.o.facts
       refine hK.out _ _ ?_ (fun Wo=>?_)
       ·(try dsimp only)
        try trivial
       clear hK K
       try simp only [Z3.pt]
       refine TR 5 (h:=fun K hK=>?_)
       go_simp
       refine hK.out _ _ ?_ (fun Oc=>?_)
       ·(try dsimp only)
        try trivial
       clear hK K
       try simp only [Z3.pt]
       refine YA 7 (h:=YA 8 (h:=?_))
       refine TR 9 (h:=fun K hK=>?_)
       go_simp
       have AO:=Zh (AL.o.set 20 (.slice na (G1++Y1).length nc) (.slice na (G1++Y1).length nc) gu rfl)
       obtain ⟨h20,h21,g20,g21⟩:=AO.o.facts
       refine hK.out _ _ ?_ (fun H_=>?_)
       ·(try dsimp only)
        try trivial
       clear hK K
       try simp only [Z3.pt]
       refine YA 10 (h:=?_)
       refine TR 11 (h:=fun K hK=>?_)
       go_simp
       have fX:=Zh (AO.o.set 21 (.int .i64 (gu+yu)) (.slice na (G1++Y1).length nc) (gu+yu) rfl)
       refine hK.out _ _ ?_ (fun D_=>?_)
       ·(try dsimp only)
        try trivial
       exact gZ
      refine AllReadyH.cons (i:=5) rfl (fun K hK=>?_) AllReadyH.nil
      go_simp
      refine hK.out _ _ ?_ (fun rM=>?_)
      ·(try dsimp only)
       try trivial
      clear hK K
      try simp only [Z3.pt]
      refine YA 7 (h:=?_)
      refine TR 3 (h:=fun K hK=>?_)
      have qA:=Zh (DD.o.below (YG _ _).drew)
      refine Zw Zr (.tmp 73) (.tmp 74) 98 Zr w.heap.size XU _ G1.length (G1.flatMap Z_) Zr Gk.o.own _ Y1.length (Y1.flatMap Z_) Zr qA.o (Wf _) (Yk _) Zo Zo ?_ ?_
      ·have:=Gk.o.fr.size;omega
      intro v' w6 HO HG
      have Mv:Hid (w6.ownsRow w 158 5 v' (G1++Y1).length ((G1++Y1).flatMap Z_)):=gJ
      obtain ⟨na,nc,Ig,-⟩:=Row.ZV Mv.o
      subst Ig
      have AL:=Zh (Gk.o.grown HG.o Mv.o)
      obtain ⟨d20,d21,f20,f21⟩:=AL.o.facts
      refine hK.out _ _ ?_ (fun iO=>?_)
      ·(try dsimp only)
       try trivial
      clear hK K
      try simp only [Z3.pt]
      refine YA 8 (h:=?_)
      refine TR 9 (h:=fun K hK=>?_)
      go_simp
      have AO:=Zh (AL.o.set 20 (.slice na (G1++Y1).length nc) (.slice na (G1++Y1).length nc) gu rfl)
      obtain ⟨h20,h21,g20,g21⟩:=AO.o.facts
      refine hK.out _ _ ?_ (fun iP=>?_)
      ·(try dsimp only)
       try trivial
      clear hK K
      try simp only [Z3.pt]
      refine YA 10 (h:=?_)
      refine TR 11 (h:=fun K hK=>?_)
      go_simp
      have fX:=Zh (AO.o.set 21 (.int .i64 (gu+yu)) (.slice na (G1++Y1).length nc) (gu+yu) rfl)
      refine hK.out _ _ ?_ (fun iQ=>?_)
      ·(try dsimp only)
       try trivial
      exact gZ
     refine AllReadyH.cons (i:=5) rfl (fun K hK=>?_) AllReadyH.nil
     go_simp
     refine hK.out _ _ ?_ (fun nY=>?_)
     ·(try dsimp only)
      try trivial
     clear hK K
     try simp only [Z3.pt]
     refine YA 7 (h:=?_)
     refine TR 1 (h:=fun K hK=>?_)
     go_simp
     refine hK.out _ _ ?_ (fun nZ=>?_)
     ·(try dsimp only)
      try trivial
     clear hK K
     try simp only [Z3.pt]
     refine TR 3 (h:=fun K hK=>?_)
     have qA:=Zh (DD.o.below (YG _ _).drew)
     refine Zw Zr (.tmp 73) (.tmp 74) 98 Zr w.heap.size XU _ G1.length (G1.flatMap Z_) Zr Gk.o.own _ Y1.length (Y1.flatMap Z_) Zr qA.o (Wf _) (Yk _) Zo Zo ?_ ?_
     ·have:=Gk.o.fr.size;omega
     intro v' w6 HO HG
     have Mv:Hid (w6.ownsRow w 158 5 v' (G1++Y1).length ((G1++Y1).flatMap Z_)):=gJ
     obtain ⟨na,nc,Ig,-⟩:=Row.ZV Mv.o
     subst Ig
     have AL:=Zh (Gk.o.grown HG.o Mv.o)
     obtain ⟨d20,d21,f20,f21⟩:=AL.o.facts
     refine hK.out _ _ ?_ (fun n7=>?_)
     ·(try dsimp only)
      try trivial
     clear hK K
     try simp only [Z3.pt]
     refine YA 8 (h:=?_)
     refine TR 9 (h:=fun K hK=>?_)
     go_simp
     have AO:=Zh (AL.o.set 20 (.slice na (G1++Y1).length nc) (.slice na (G1++Y1).length nc) gu rfl)
     obtain ⟨h20,h21,g20,g21⟩:=AO.o.facts
     refine hK.out _ _ ?_ (fun n9=>?_)
     ·(try dsimp only)
      try trivial
     clear hK K
     try simp only [Z3.pt]
     refine YA 10 (h:=?_)
     refine TR 11 (h:=fun K hK=>?_)
     go_simp
     have fX:=Zh (AO.o.set 21 (.int .i64 (gu+yu)) (.slice na (G1++Y1).length nc) (gu+yu) rfl)
     refine hK.out _ _ ?_ (fun n_=>?_)
     ·(try dsimp only)
      try trivial
     exact gZ
    ·have vB:j=LV.length:=by omega
     have hT:IL.take j=IL:=by rw [vB,ky.o];exact I8 (by rw [UM];exact ZB _)
     rw [hT] at wV
     obtain ⟨ta,tc,oU,-⟩:=Row.ZV wV.o.own
     subst oU
     clear Bo ku hT
     generalize ZG peer IL R=G at *
     obtain ⟨⟨G1,G2⟩,gu⟩:=G
     dsimp only at HX wV
     have hk:=wV.o.Y8
     unfold EG at hk
     have CC:=Zh (J7 g (.pointer (some ⟨b,0,none⟩)) ep (Qm 0 0 0 0 false 0 0 0 0 none 0 0 false 0 none 0 0 none 0 0 0 0 false false 0 va LV.length vc ta G1.length tc gu) wr wV.o.VO.Y8 h0 h9 rfl Zg)
     have gF:Hid (YC wr ((((Qm 0 0 0 0 false 0 0 0 0 none 0 0 false 0 none 0 0 none 0 0 0 0 false false 0 va LV.length vc ta G1.length tc gu):List Value).set 0 (.int .i64 2)).set 2 (.int .i64 (ep+1))) (U7 (ep+1) IL G1 gu)):=⟨_,_,_,_,_,rfl,Vk.nil _,⟨LV,ky.o,wV.o.its⟩,Row.ZV wV.o.own⟩
     have ko:=Zh wV.o.VO.apart
     have hzr:=wV.o.z
     generalize TH:((((Qm 0 0 0 0 false 0 0 0 0 none 0 0 false 0 none 0 0 none 0 0 0 0 false false 0 va LV.length vc ta G1.length tc gu):List Value).set 0 (.int .i64 2)).set 2 (.int .i64 (ep+1)))=cs at *
     clear TH
     go_wp2_with (first|(with_reducible refine Yp 100 (.tmp 12) rfl ?_;refine Yd rfl 100 (.tmp 12) rfl k rfl 100 (Qm 0 0 0 0 false 0 0 0 0 none 0 0 false 0 none 0 0 none 0 0 0 0 false false 0 va LV.length vc ta G1.length tc gu) (0,0) _ hk Tryz.underlying100 rfl Zg ?_)|(go_at_call 79;refine CC.o.mono ?_;rintro e w5 ⟨rfl,ji,vA⟩;have JV:=Zh vA;have Ki:=(vA.block (w.heap.size+1) (ZQ hzr) Zo).trans hzr;have Pv:Hid (YC w5 cs (U7 (ep+1) IL G1 gu)):=gF.o.fr vA (fun k hk=>ko.o k (Wj hk));have HD5:Hid (Yl w5 g b G2 (ep+1)):=⟨ji,wV.o.VO.room.fr vA (ZB _) (fun h=>Br (Eq.symm h)) (fun k c fr hk=>ko.o.ne Zi k c fr (Wj hk))⟩;have hi:=Tc Pv.o;have hold:=Tb Pv.o;have SY:=Pv.o.one;clear ji vA CC)|(with_reducible refine ZY 100 (.tmp 4) (.tmp 85) rfl ?_;refine ZW rfl 100 (.tmp 4) (.tmp 85) rfl rfl (w.heap.size+1) cs.toArray rfl rfl 100 XQ Ki hi hold SY ?_))
     refine VR (v:= .agg cs.toArray) ?_ rfl ?_
     ·exact qR
     rw [HX.o]
     refine ⟨⟨cs,rfl,Pv.o.setRow Ki _⟩,HD5.o.setRow Ki Zo Zo _,?_⟩
     exact Ul (wV.o.fr.trans (JV.o.mono wV.o.fr.size (fun _ _ h=>Wj h))) (JK _) _
  ·exact aT
 ·exact aS
theorem DY (g b:Nat) (R:Room) (ep kd peer src ly:Int) (nm:ByteArray) (sa ba:Option Addr) (sl sc bl bc:Nat) (l:List UInt8) (w:World) (hD:Yl w g b R ep) (hI:Inv R) (hS:WZ R) (h0:0≤ep) (h9:ep<1000000000) (hv:Yn w (.slice ba bl bc) l) :
  Calls Tryz.prog 76 (Qf (some ⟨g,0,none⟩) (Qa kd peer src ly nm sa sl sc ba bl bc)) w fun e w'=>(∃ cs:List Value,e = .returned (.agg cs.toArray)∧YC w' cs (YZ R ep peer l).1.1)∧Yl w' g b (YZ R ep peer l).1.2 (YZ R ep peer l).2∧Fr w (fun k=>k=b∨k=g) w w':=by
 by_cases h3:192≤at8 l 1∧at8 l 1≤223
 ·exact Gw g b R ep kd peer src ly nm sa ba sl sc bl bc l w hD hI hS h0 h9 hv h3
 ·exact Ob g b R ep kd peer src ly nm sa ba sl sc bl bc l w hD hI hS.short hv h3
open Go.Proofs
open Go.Proofs.Rm (YL below_drewN)
def QS (a:Gg):List Value:=(Jo a)
def Yi (x:XJ):List Value:=(Qe x.peer x.source x.bgn x.fin)
structure MedV where
 p:J2
 d:AJ
 cv:Value
 ev:Value
 pv:Value
theorem xu:Elem Tryz.prog 37 35 4 32:=⟨Tryz.underlying37,⟨.agg (Qe 0 0 0 0),by kernel_rfl,rfl⟩,by decide⟩
theorem Bf:Elem Tryz.prog 39 59 4 32:=⟨Tryz.underlying39,⟨.agg (Qe 0 0 0 0),by kernel_rfl,rfl⟩,by decide⟩
theorem L8 {w:World} {base:Nat} {e:TypeId} {size:Nat} {v:Value} {n:Nat} {xs:List Value} (h:w.ownsRow base e size v n xs):∀ k,v.ownBlock=some k→∃ cur,w.heap[k]?=some (.cells cur e (0,0)):=by
 intro k hk
 obtain ⟨_,h⟩:=h
 rcases h with ⟨rfl,_⟩|⟨g,cap,cur,rfl,hg,hh,_⟩
 ·cases hk
 ·have hk:some g=some k:=hk
  cases hk
  exact ⟨cur,hh⟩
section
variable {B:Nat} {w w':World} {k:Nat} {cs:Array Value} {av:Value} {A:List Gg} {mv:Value} {M:List MedV} {lv:Value} {LS:List XJ}
theorem Vk.lF {p:J2} {cv ev pv:Value} {S:Nat→Prop} (h:Vk w p cv ev pv) (hf:Fr w S w w') (h1:∀ k c fr,S k→w.heap[k]?≠some (.cells c 66 fr)) (h2:∀ k c fr,S k→w.heap[k]?≠some (.cells c 5 fr)):Vk w' p cv ev pv:=
 ⟨Row.fr h.c hf (ZB _) h1,Row.fr h.e hf (ZB _) h2,Row.fr h.p hf (ZB _) h2⟩
theorem BO (at':Int):∀ (Q:List XJ) (m:Nat) (_:m<Q.length),(Q.flatMap Yi).set (m*4+3) (.int .i64 at')=(Q.set m {Q.getD m UI with fin:=at'}).flatMap Yi
 | [],m,hm=>by simp at hm
 | x :: Q,0,_=>by simp [Yi]
 | x :: Q,m+1,hm=>by
  have ih:=BO at' Q m (by simpa using hm)
  rw [List.flatMap_cons,List.set_append_right _ _ (by show 4≤_;omega),List.set_cons_succ,List.flatMap_cons]
  have:(m+1)*4+3-(Yi x).length=m*4+3:=by show _-4=_;omega
  rw [this,ih]
  rfl
end
theorem o8 {w:World} {g n c:Nat} {l:List XJ} {B:Nat} (h:w.ownsRow B 59 4 (.slice (some ⟨g,0,none⟩) n c) n (l.flatMap Yi)) {m:Nat} (hm:m<l.length):w.cell? ⟨g,m*4,none⟩=some (.int .i64 (l.getD m UI).peer)∧w.cell? ⟨g,m*4+1,none⟩=some (.int .i64 (l.getD m UI).source)∧w.cell? ⟨g,m*4+3,none⟩=some (.int .i64 (l.getD m UI).fin):=by
 have GF:=XZ Yi 4 (fun _=>rfl) l
 obtain ⟨g',off,cap,h1,h2,h3,h4,h5⟩:=Row.open (Row.ZV h) (by rw [GF];omega)
 injection h1 with e1 _ _
 cases e1
 have hx:l[m]?=some (l.getD m UI):=by rw [Sq,VQ hm];rfl
 have hj:∀ j,j<4→w.cell? ⟨g,m*4+j,none⟩=(Yi (l.getD m UI))[j]?:=fun j hj=>by
  have h6:=h5 (m*4+j) (by rw [GF];omega)
  rw [OD] at h6
  rw [h6]
  exact NJ Yi 4 (fun _=>rfl) l m j _ hx hj
 exact ⟨hj 0 Zo,hj 1 Zo,hj 3 Zo⟩
theorem sV (x:XJ):∀ u∈Yi x,u.oneCell'=true:=by
 intro u hu
 simp only [Yi,KG,List.mem_nil_iff,or_false] at hu
 rcases hu with rfl|rfl|rfl|rfl <;> rfl
end Go.Proofs.By
namespace Go.Proofs.By
def Xq (b:List UInt8):Nat:=if at8 b 0 / 16 % 2=1 then 12+4*(at8 b 0 % 16)+4+4*get b (((12+4*(at8 b 0 % 16):Nat):Int)+2) 2 else 12+4*(at8 b 0 % 16)
def UN (b:List UInt8):Nat:=if at8 b 0 / 16 % 2=1 then 12+4*(at8 b 0 % 16)+4 else 12+4*(at8 b 0 % 16)
def TZ (b:List UInt8):Nat:=if at8 b 0 / 32 % 2=1 then at8 b (b.length-1) else 0
def Et (b:List UInt8):J2 × Int:=
  if 512<b.length then (Xp,5)
  else if b.length<12 then (Xp,2)
  else if at8 b 0<128∨191<at8 b 0 then (Xp,1)
  else if 192≤at8 b 1∧at8 b 1≤223 then (Xp,4)
  else if b.length<12+4*(at8 b 0 % 16) then (Xp,2)
  else if at8 b 0 / 16 % 2=1∧b.length<12+4*(at8 b 0 % 16)+4 then (Xp,2)
  else if b.length<Xq b then (Xp,2)
  else if at8 b 0 / 32 % 2=1∧(Xq b=b.length∨at8 b (b.length-1)=0∨b.length-Xq b<at8 b (b.length-1)) then (Xp,1)
  else if at8 b 0 / 32 % 2=1∧¬(((b.drop (b.length-at8 b (b.length-1))).take (at8 b (b.length-1)-1)).all (fun x=>decide (x=0))=true) then (Xp,1)
  else (Un b (UN b,Xq b,b.length-TZ b),0)
theorem rp (b:List UInt8) (k i:Nat):at8 (b.drop k) i=at8 b (k+i):=by
  unfold at8
  rw [Sq,Sq,List.getElem?_drop]
theorem zP (b:List UInt8):YY b=Et b:=by
  unfold YY Et
  have e0:looks b=if 512<b.length then ((0,0,0),5)
    else if b.length<12 then ((0,0,0),2)
    else if at8 b 0 / 64≠2 then ((0,0,0),1)
    else if 192≤at8 b 1∧at8 b 1≤223 then ((0,0,0),4)
    else if (V5 b (12+4*(at8 b 0 % 16))).2=false then ((0,0,0),2)
    else if (SI b (b.drop (V5 b (12+4*(at8 b 0 % 16))).1.2)).2=false then ((0,0,0),1) else (((V5 b (12+4*(at8 b 0 % 16))).1.1,(V5 b (12+4*(at8 b 0 % 16))).1.2,b.length-(SI b (b.drop (V5 b (12+4*(at8 b 0 % 16))).1.2)).1),0):=rfl
  rw [e0]
  by_cases h1:512<b.length
  · simp only [ZX h1];rfl
  simp only [Z6 h1]
  by_cases h2:b.length<12
  · simp only [ZX h2];rfl
  simp only [Z6 h2]
  have hb:=(show at8 b 0<256 by unfold at8;exact (b.getD 0 0).toNat_lt)
  by_cases h3:at8 b 0<128∨191<at8 b 0
  · simp only [ZX h3,ZX (show at8 b 0 / 64≠2 by omega)];rfl
  simp only [Z6 h3,Z6 (show ¬at8 b 0 / 64≠2 by omega)]
  by_cases h4:192≤at8 b 1∧at8 b 1≤223
  · simp only [ZX h4];rfl
  simp only [Z6 h4]
  obtain ⟨p,hp⟩:∃ p,p=12+4*(at8 b 0 % 16):=⟨_,rfl⟩
  have hx:(V5 b p).1=(UN b,Xq b)∧((V5 b p).2=decide (¬(b.length<p)∧¬(at8 b 0 / 16 % 2=1∧b.length<p+4)∧¬b.length<Xq b)):=by
    unfold V5 UN Xq
    rw [←hp]
    by_cases h5:at8 b 0 / 16 % 2=1
    · rw [Z6 (show ¬at8 b 0 / 16 % 2=0 by omega)]
      simp only [ZX h5]
      refine ⟨by first|rfl|simp,?_⟩
      rw [Bool.eq_iff_iff,Ui,within_iff,NB,NB]
      omega
    · rw [ZX (show at8 b 0 / 16 % 2=0 by omega)]
      simp only [Z6 h5]
      refine ⟨by first|rfl|simp,?_⟩
      rw [Bool.eq_iff_iff,NB,NB]
      omega
  rw [←hp,hx.1,hx.2]
  have hpe:p≤Xq b:=by unfold Xq;rw [←hp];split <;> omega
  by_cases h5:¬(b.length<p)∧¬(at8 b 0 / 16 % 2=1∧b.length<p+4)∧¬b.length<Xq b
  · rw [Ws h5]
    simp only [Bool.true_eq_false,if_false,Z6 h5.1,Z6 h5.2.1,Z6 h5.2.2]
    have hq:(b.drop (Xq b)).length=b.length-Xq b:=RU
    by_cases h6:at8 b 0 / 32 % 2=1
    · simp only [h6,true_and]
      unfold SI TZ
      rw [Z6 (show ¬at8 b 0 / 32 % 2=0 by omega),hq,ZX h6]
      by_cases h7:b.length-Xq b=0
      · simp only [ZX h7,ZX (show Xq b=b.length∨at8 b (b.length-1)=0∨b.length-Xq b<at8 b (b.length-1) from Wc Zo)];rfl
      simp only [Z6 h7,rp,List.drop_drop]
      rw [show Xq b+(b.length-Xq b-1)=b.length-1 by omega]
      by_cases h8:at8 b (b.length-1)=0∨b.length-Xq b<at8 b (b.length-1)
      · simp only [ZX h8,ZX (show Xq b=b.length∨at8 b (b.length-1)=0∨b.length-Xq b<at8 b (b.length-1) from Wj h8)];rfl
      rw [Z6 h8,Z6 (show ¬(Xq b=b.length∨at8 b (b.length-1)=0∨b.length-Xq b<at8 b (b.length-1)) by omega),show Xq b+(b.length-Xq b-at8 b (b.length-1))=b.length-at8 b (b.length-1) by omega]
      by_cases h9:((b.drop (b.length-at8 b (b.length-1))).take (at8 b (b.length-1)-1)).all (fun x=>decide (x=0))=true
      · simp [h9]
      · simp [h9]
    · have h6':at8 b 0 / 32 % 2=0:=by omega
      unfold SI TZ
      simp [h6',h6]
  · rw [WN h5]
    simp only [if_true]
    by_cases a1:b.length<p
    · rw [ZX a1];rfl
    rw [Z6 a1]
    by_cases a2:at8 b 0 / 16 % 2=1∧b.length<p+4
    · rw [ZX a2];rfl
    rw [Z6 a2]
    by_cases a3:b.length<Xq b
    · rw [ZX a3];rfl
    · exact absurd ⟨a1,a2,a3⟩ h5
open Go.RowKit Go.Proofs.Heap
open Go.Proofs.Rm (WB)
theorem RX (v:Value) (b:List UInt8) (p q:Int) (w:World) (hv:Yn w v b):Calls Tryz.prog 118 #[v,.int .i64 p,.int .i64 q] w fun e w'=>e = .returned (.int .u64 (get b p q:Nat))∧w=w':=by
 have C:=Zh (tB v b p q w hv)
 clear hv
 go_enter Tryz.func118,Tryz.ntmps118
 go_wp2_with (go_at_call 145;refine C.o.mono ?_;rintro e w' ⟨rfl,rfl⟩)
 go_ret
 exact ⟨rfl,rfl⟩
theorem tD (p s:Int) (w:World):Calls Tryz.prog 61 (Qz p s) w fun e w'=>e = .returned (.int .u32 (V_ p s))∧w=w':=by
 have HF:Hid (V_ p s=if WB p 9 && WB s 9 then 3221225472+(256*p+s) else 0):=rfl
 generalize V_ p s=x at *
 by_cases h1:p<1
 ·have HX:Hid (x=0):=by show _=_;rw [HF.o,Z6 (by intro h;have:=XO.1 ((Ui _ _).mp h).1;omega)]
  have d1:decide (p<1)=true:=Ws h1
  exact nE
 have d1:decide (p<1)=false:=WN h1
 by_cases h2:8<p
 ·have HX:Hid (x=0):=by show _=_;rw [HF.o,Z6 (by intro h;have:=XO.1 ((Ui _ _).mp h).1;omega)]
  have d2:decide (8<p)=true:=Ws h2
  exact nE
 have d2:decide (8<p)=false:=WN h2
 by_cases h3:s<1
 ·have HX:Hid (x=0):=by show _=_;rw [HF.o,Z6 (by intro h;have:=XO.1 ((Ui _ _).mp h).2;omega)]
  have d3:decide (s<1)=true:=Ws h3
  exact nE
 have d3:decide (s<1)=false:=WN h3
 by_cases h4:8<s
 ·have HX:Hid (x=0):=by show _=_;rw [HF.o,Z6 (by intro h;have:=XO.1 ((Ui _ _).mp h).2;omega)]
  have d4:decide (8<s)=true:=Ws h4
  exact nE
 have d4:decide (8<s)=false:=WN h4
 have HX:Hid (x=3221225472+(256*p+s)):=by show _=_;rw [HF.o,ZX (by rw [XO.2 ⟨Zo,Zo⟩,XO.2 ⟨Zo,Zo⟩];rfl)]
 have w1:IntKind.u32.wrap p=p:=by rw [NC];omega
 have w2:IntKind.u32.wrap s=s:=by rw [NC];omega
 have w3:IntKind.u32.wrap (p*256)=p*256:=by rw [NC];omega
 have w4:IntKind.u32.wrap (3221225472+p*256)=3221225472+p*256:=by rw [NC];omega
 have w5:IntKind.u32.wrap (3221225472+p*256+s)=3221225472+p*256+s:=by rw [NC];omega
 clear HF
 go_enter Tryz.func61,Tryz.ntmps61
 go_wp2
 go_ret
 exact ⟨Md (by rw [HX.o];omega),rfl⟩
theorem Aj {x:Int} (h0:0≤x) (h1:x<4294967296) (h:∀ p s:Int,1≤p→p<9→1≤s→s<9→V_ p s≠x):VL x=(0,0,false):=by
 have h2:VL x=(if WB ((x+1073741824) % 4294967296 / 256) 9 && WB ((x+1073741824) % 4294967296 % 256) 9 then ((x+1073741824) % 4294967296 / 256,(x+1073741824) % 4294967296 % 256,true) else (0,0,false)):=rfl
 by_cases hc:(WB ((x+1073741824) % 4294967296 / 256) 9 && WB ((x+1073741824) % 4294967296 % 256) 9)=true
 ·rw [ZX hc] at h2
  have h3:=(Ge h0 h1).2 h2
  have h4:=XO.1 h3.1
  have h5:=XO.1 h3.2.1
  exact absurd h3.2.2 (h _ _ h4.1 h4.2 h5.1 h5.2)
 ·rw [Z6 hc] at h2
  exact h2
theorem zE (x:Int) (w:World) (h0:0≤x) (h1:x<4294967296) :
  Calls Tryz.prog 103 #[.int .u32 x] w fun e w'=>e = .returned (.tuple (Q1 (VL x).1 (VL x).2.1 (VL x).2.2))∧w=w':=by
 have CO:=Zh (fun (p s:Int)=>tD p s w)
 have HY:Hid (∀ p s:Int,1≤p→p<9→1≤s→s<9→V_ p s=x→VL x=(p,s,true)):=fun p s a1 a2 a3 a4 h=>(Ge h0 h1).1 ⟨XO.2 ⟨a1,a2⟩,XO.2 ⟨a3,a4⟩,h⟩
 have HN:Hid ((∀ p s:Int,1≤p→p<9→1≤s→s<9→V_ p s≠x)→VL x=(0,0,false)):=fun h=>Aj h0 h1 h
 generalize VL x=X at *
 clear h0 h1
 go_enter Tryz.func103,Tryz.ntmps103
 go_wp2_with fail
 go_loopw [5] (fun s5 w'=>∃ p:Nat,1≤p∧p≤9∧s5 = .int .i64 (p:Int)∧w'=w∧Hid (∀ p' s':Int,1≤p'→p'<p→1≤s'→s'<9→V_ p' s'≠x)) (fun s5 _=>9-(intOf s5).toNat)
 case atStart=>exact ⟨1,Zo,Zo,rfl,rfl,fun p' s' a b=>by omega⟩
 case round=>
  obtain ⟨p,Fw,Mz,rfl,rfl,HP⟩:=hrel
  by_cases hp:p<9
  ·have dp:decide ((p:Int)≤8)=true:=Ws Zo
   go_wp2_with fail
   go_loopw [6] (fun s6 w'=>∃ s:Nat,1≤s∧s≤9∧s6 = .int .i64 (s:Int)∧w'=wr∧Hid (∀ s':Int,1≤s'→s'<s→V_ (p:Int) s'≠x)) (fun s6 _=>9-(intOf s6).toNat)
   case atStart=>exact ⟨1,Zo,Zo,rfl,rfl,fun s' a b=>by omega⟩
   case round=>
    obtain ⟨s,sw,fy,rfl,rfl,HS⟩:=hrel
    by_cases hs:s<9
    ·have ds:decide ((s:Int)≤8)=true:=Ws Zo
     have C1:=Zh (CO.o p s)
     by_cases hx:V_ (p:Int) (s:Int)=x
     ·have HX:Hid (X=((p:Int),(s:Int),true)):=HY.o p s Zo Zo Zo Zo hx
      rw [hx] at C1
      clear HY HN HP HS hx CO
      go_wp2_with (go_at_call 61;refine C1.o.mono ?_;rintro e w' ⟨rfl,rfl⟩)
      go_ret3
      exact ⟨by rw [HX.o];rfl,rfl⟩
     ·have e1:(V_ (p:Int) (s:Int) == x)=false:=by rw [WT];exact hx
      have uM:Hid (∀ s':Int,1≤s'→s'<((s+1:Nat):Int)→V_ (p:Int) s'≠x):=fun s' a b=>by
       by_cases h:s'=(s:Int)
       ·rw [h];exact hx
       ·exact HS.o s' a Zo
      clear hx
      generalize V_ (p:Int) (s:Int)=z at *
      go_wp2_with (go_at_call 61;refine C1.o.mono ?_;rintro e w' ⟨rfl,rfl⟩)
      go_roundw
      case rel=>exact ⟨s+1,Zo,Zo,Zn,by first|rfl|trivial,uM.o⟩
      case measure=>simp [intOf];omega
    ·have uy:s=9:=by omega
     subst uy
     have qu:Hid (∀ p' s':Int,1≤p'→p'<((p+1:Nat):Int)→1≤s'→s'<9→V_ p' s'≠x):=fun p' s' a b c d=>by
      by_cases h:p'=(p:Int)
      ·rw [h];exact HS.o s' c d
      ·exact HP.o p' s' a Zo c d
     clear hs
     go_wp2
     go_roundw
     case rel=>exact ⟨p+1,Zo,Zo,Zn,by first|rfl|trivial,qu.o⟩
     case measure=>simp [intOf];omega
  ·have Bw:p=9:=by omega
   subst Bw
   have HX:Hid (X=(0,0,false)):=HN.o (fun p s a b c d=>HP.o p s a b c d)
   clear HP HY HN CO hp
   go_wp2
   go_ret3
   exact ⟨by rw [HX.o];rfl,rfl⟩
def WY (k n:Nat):Nat:=if k=200 then 6+6*n else if k=201 then 1+6*n else if k=203 then n else if k=205 then 2+n else 2
theorem zQ (k n:Nat) (w:World) (hn:n≤100000):Calls Tryz.prog 116 (Qz (k:Int) (n:Int)) w fun e w'=>e = .returned (.int .i64 (WY k n:Nat))∧w=w':=by
 have HF:Hid (WY k n=if k=200 then 6+6*n else if k=201 then 1+6*n else if k=203 then n else if k=205 then 2+n else 2):=rfl
 generalize WY k n=x at *
 have w1:IntKind.i64.wrap (6*(n:Int))=6*(n:Int):=Ua _ Zo
 have w2:IntKind.i64.wrap (6+6*(n:Int))=6+6*(n:Int):=Ua _ Zo
 have w3:IntKind.i64.wrap (1+6*(n:Int))=1+6*(n:Int):=Ua _ Zo
 have w4:IntKind.i64.wrap (2+(n:Int))=2+(n:Int):=Ua _ Zo
 by_cases k0:k=200
 ·have HX:Hid (x=6+6*n):=by show _=_;rw [HF.o,ZX k0]
  subst k0
  exact qV
 by_cases k1:k=201
 ·have HX:Hid (x=1+6*n):=by show _=_;rw [HF.o,Z6 k0,ZX k1]
  subst k1
  exact qV
 by_cases k3:k=203
 ·have HX:Hid (x=n):=by show _=_;rw [HF.o,Z6 k0,Z6 k1,ZX k3]
  subst k3
  exact qV
 by_cases k5:k=205
 ·have HX:Hid (x=2+n):=by show _=_;rw [HF.o,Z6 k0,Z6 k1,Z6 k3,ZX k5]
  subst k5
  exact qV
 have HX:Hid (x=2):=by show _=_;rw [HF.o,Z6 k0,Z6 k1,Z6 k3,Z6 k5]
 have e0:((k:Int) == 200)=false:=by rw [WT];omega
 have e1:((k:Int) == 201)=false:=by rw [WT];omega
 have e3:((k:Int) == 203)=false:=by rw [WT];omega
 have e5:((k:Int) == 205)=false:=by rw [WT];omega
 exact qV
end Go.Proofs.By
