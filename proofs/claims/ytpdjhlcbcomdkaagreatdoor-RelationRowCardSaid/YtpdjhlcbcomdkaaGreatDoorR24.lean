/- Part of a proof. -/
import Derived.Test.YtpdjhlcbcomdkaaGreatDoorR23
set_option linter.unusedVariables false
set_option linter.unusedSimpArgs false
set_option maxRecDepth 100000
set_option maxHeartbeats 16000000
open Go Go.Q Go.Qr
namespace Go.Proofs.By
open Go.RowKit Go.Proofs.Heap
open Go.Proofs.Rm (YF YB Room ZT Inv V8 Y_ Ty Z9 XM VT X_ WG YL)
theorem XQ {w w':World} {base:Nat} {e:TypeId} {size:Nat} {v:Value} {n:Nat} {xs:List Value} (h:w.ownsRow base e size v n xs) (hb:∀ k,v.ownBlock=some k→w'.heap[k]?=w.heap[k]?):w'.ownsRow base e size v n xs:=by
 obtain ⟨hl,h⟩:=h;refine ⟨hl,?_⟩;rcases h with h|⟨g,cap,cur,rfl,hg,hh,h1,h2,h3,h4⟩
 ·exact Ws h
 ·exact Wh ⟨g,cap,cur,rfl,hg,(hb g rfl).trans hh,h1,h2,h3,h4⟩
theorem Ms.below {w w':World} {v:Value} {L:List RN} (h:Ms w v L) (hb:Below w w w'):Ms w' v L:=⟨h.row.below hb,fun x hx=>(h.each x hx).below hb⟩
theorem Ms.fr {w w':World} {v:Value} {L:List RN} {S:Nat→Prop} (h:Ms w v L) (hf:Fr w S w w') (hS:KE w S):Ms w' v L:=
 ⟨Row.fr h.row hf (Zw _) (hS.ne Zi),fun x hx=>⟨Row.fr (h.each x hx).b hf (Zw _) (hS.ne Zi),Row.fr (h.each x hx).g hf (Zw _) (hS.ne Zi),Row.fr (h.each x hx).p hf (Zw _) (hS.ne Zi)⟩⟩
def Dp (iv tv u:Value):Array Value:=#[.int .i64 0,.int .i64 0,.int .i64 0,.int .i64 0,.bool false,.int .i64 0,.int .u16 0,.int .u32 0,.int .u32 0,.slice none 0 0,.bool false,.int .u16 0,.slice none 0 0,.slice none 0 0,.int .i64 0,.int .i64 0,.bool false,.bool false,.int .u16 0,iv,tv,u]
structure DL (w w':World) (g b k:Nat) (ep:Int) (oc:Array Value) (iv:Value) (LV:List RN) (qF:Value) (cu:Int) (tv:Value) (ts:List YB) (Q:Room):Prop where
 fr:Fr w (fun j=>j=b∨j=g) w w'
 op:w'.heap[w.heap.size]?=some (.cells oc 32 (0,0))
 z:w'.heap[w.heap.size+1]?=some (.cells Xr 100 (0,0))
 Y8:w'.heap[k]?=some (.cells (Dp iv qF (.int .i64 cu)) 100 (0,0))
 its:Ms w' iv LV
 own:w'.ownsRow w 158 5 tv ts.length (ts.flatMap Z9)
 RT:Ya w' g b Q ep
 kl:w.heap.size+1<k
 bl:b<w.heap.size
 gl:g<w.heap.size
section
variable {w w1 w2:World} {g b k:Nat} {ep:Int} {oc:Array Value} {iv:Value} {LV:List RN} {qF:Value} {cu:Int} {tv:Value} {ts:List YB} {Q:Room}
theorem DL.below (h:DL w w1 g b k ep oc iv LV qF cu tv ts Q) (hb:Below w1 w1 w2):DL w w2 g b k ep oc iv LV qF cu tv ts Q:=
 ⟨h.fr.trans (Fr.Z7 _ (hb.mono h.fr.size)),(hb.block _ (ZW h.op)).trans h.op,(hb.block _ (ZW h.z)).trans h.z,(hb.block _ (ZW h.Y8)).trans h.Y8,h.its.below hb,Yw h.own hb,h.RT.below hb,h.kl,h.bl,h.gl⟩
theorem DL.item (h:DL w w1 g b k ep oc iv LV qF cu tv ts Q) {Q':Room} (hr:ZT w2 b Q') (hf:Fr w1 (· = b) w1 w2):DL w w2 g b k ep oc iv LV qF cu tv ts Q':=by
 have hb:=h.bl;have hk:=h.kl;exact ⟨h.fr.trans (hf.mono h.fr.size (fun _ _ h=>Ws h)),(hf.block _ (ZW h.op) Zo).trans h.op,(hf.block _ (ZW h.z) Zo).trans h.z,(hf.block _ (ZW h.Y8) Zo).trans h.Y8,h.its.fr hf (fun j hj=>h.RT.apart j (Ws hj)),WG h.own hf (fun j hj=>by have hj:j=b:=hj;omega),⟨(hf.block g (ZW h.RT.Y8) h.RT.ne).trans h.RT.Y8,hr⟩,h.kl,h.bl,h.gl⟩
theorem DL.grown (h:DL w w1 g b k ep oc iv LV qF cu tv ts Q) (hg:w1.grownBy w2 tv.ownBlock) {tv':Value} {ts':List YB} (ho:w2.ownsRow w 158 5 tv' ts'.length (ts'.flatMap Z9)):DL w w2 g b k ep oc iv LV qF cu tv' ts' Q:=by
 have WK:∀ {j c e f},w1.heap[j]?=some (.cells c e f)→e≠158→tv.ownBlock≠some j:=fun hj he ho=>Za h.own he _ _ _ ho hj
 have hf:=XY hg;have ht:∀ e,e≠158→∀ j c fr,tv.ownBlock=some j→w1.heap[j]?≠some (.cells c e fr):=fun e he=>Za h.own he
 exact ⟨h.fr.grown hg h.fr.size (YL h.own),(hg.block _ (ZW h.op) (fun e=>WK h.op Zd e.symm)).trans h.op,(hg.block _ (ZW h.z) (fun e=>WK h.z Zd e.symm)).trans h.z,(hg.block _ (ZW h.Y8) (fun e=>WK h.Y8 Zd e.symm)).trans h.Y8,
  ⟨Row.fr h.its.row hf (Zw _) (ht _ Zd),fun x hx=>(h.its.each x hx).yz hf (ht _ Zd) (ht _ Zd) (ht _ Zd)⟩,ho,
  ⟨(hg.block _ (ZW h.RT.Y8) (fun e=>WK h.RT.Y8 Zd e.symm)).trans h.RT.Y8,ZT.grown h.RT.room h.own hg h.bl Zd⟩,h.kl,h.bl,h.gl⟩
theorem DL.set (h:DL w w1 g b k ep oc iv LV qF cu tv ts Q) (o:Nat) (v ctv':Value) (cu':Int) (hc:(Dp iv qF (.int .i64 cu)).setIfInBounds o v=Dp iv ctv' (.int .i64 cu')):DL w (w1.setCell ⟨k,o,none⟩ v) g b k ep oc iv LV ctv' cu' tv ts Q:=by
 have hk:=h.kl;have hb:=h.bl;have Bh:=h.gl;have hf:Fr w1 (· = k) w1 (w1.setCell ⟨k,o,none⟩ v):=(Fr.refl _ _ _).setAt _ _
 have H':∀ e,100≠e→∀ j c fr,j=k→w1.heap[j]?≠some (.cells c e fr):=by
  intro e he j c fr hj hc;rw [hj,h.Y8] at hc;injection hc with hc
  injection hc with _ hc
  exact he hc
 have oO:=VH h.Y8 o v;rw [hc] at oO
 exact ⟨h.fr.setCell (p:=⟨k,o,none⟩) (Ws (by show _≤k;omega)) _,(hf.block _ (ZW h.op) Zo).trans h.op,(hf.block _ (ZW h.z) Zo).trans h.z,oO,
  h.its.fr hf (fun j hj=>by have hj:j=k:=hj;subst hj;exact ⟨_,_,_,h.Y8,by decide,by decide,by decide,by decide,by decide,by decide,by decide⟩),
  XQ h.own (fun j hj=>by
   by_cases JC:j=k
   ·subst JC;exact absurd h.Y8 (Za h.own Zd _ _ _ hj)
   ·exact MH w1 ⟨k,o,none⟩ _ j JC),
  ⟨(hf.block g (ZW h.RT.Y8) Zo).trans h.RT.Y8,h.RT.room.fr hf (Zw _) Zo (H' _ Zd)⟩,h.kl,h.bl,h.gl⟩
theorem DL.facts (h:DL w w1 g b k ep oc iv LV qF cu tv ts Q):w1.cell? ⟨k,20,none⟩=some qF∧w1.cell? ⟨k,21,none⟩=some (.int .i64 cu)∧w1.frozen? ⟨k,20,none⟩=false∧w1.frozen? ⟨k,21,none⟩=false:=
 ⟨Zc h.Y8 20 rfl,Zc h.Y8 21 rfl,ZO h.Y8 20,ZO h.Y8 21⟩
end
theorem Rb {α:Type} {l:List α} {k:Nat} {x:α} (h:l[k]?=some x):l.take (k+1)=l.take k++[x]:=by
 obtain ⟨h1,h2⟩:=List.getElem?_eq_some_iff.1 h;rw [List.take_succ_eq_append_getElem h1,h2]
theorem E_ (g b:Nat) (R:Room) (ep kd peer src ly:Int) (nm:ByteArray) (sa ba:Option Addr) (sl sc bl bc:Nat) (l:List UInt8) (w:World) (hD:Ya w g b R ep) (hI:Inv R) (hS:V8 R) (h0:0≤ep) (h9:ep<1000000000) (hv:X6 w (.slice ba bl bc) l) (h3:192≤at8 l 1∧at8 l 1≤223) :
  Calls Tryz.prog 76 (Qi (some ⟨g,0,none⟩) (Qa kd peer src ly nm sa sl sc ba bl bc)) w fun e w'=>(∃ cs:List Value,e = .returned (.agg cs.toArray)∧Yd w' cs (YG R ep peer l).1.1)∧Ya w' g b (YG R ep peer l).1.2 (YG R ep peer l).2∧Fr w (fun k=>k=b∨k=g) w w':=by
 have HX:Hid (YG R ep peer l=if (XN l).2≠0 then ((Yb 3 (XN l).2,R),ep) else if !Y_ R peer then ((Yb 4 0,R),ep) else match (XN l).1 with
  | .X5 p d=>((Vg R ep peer p d,R),ep)
  | .XX l=>((Ub (ep+1) l (ZC peer l R).1.1 (ZC peer l R).2,(ZC peer l R).1.2),ep+1)
  | .none=>((Ub (ep+1) [] [] 0,R),ep+1)):=rfl
 have Mr:Hid ((XN l).2=0→(XN l).1 = .XX (Yj l).1):=fun h=>M7 h3 h
 have PJ:=Zh (Si l);have Bh:=hD.cells.2.2.2;have W8:=hD.room.lt;have wC:=hD.ne
 have Ac:((w.alloc (.cells (Qa kd peer src ly nm sa sl sc ba bl bc) 32)).alloc (.cells Xr 100)).heap[w.heap.size]?=some (.cells (Qa kd peer src ly nm sa sl sc ba bl bc) 32 (0,0)):=by
  rw [(Z' _ _).block _ BJ];exact Z8 w _
 have hz:((w.alloc (.cells (Qa kd peer src ly nm sa sl sc ba bl bc) 32)).alloc (.cells Xr 100)).heap[w.heap.size+1]?=some (.cells Xr 100 (0,0)):=by
  exact Yx49
 have Kz:Below w w ((w.alloc (.cells (Qa kd peer src ly nm sa sl sc ba bl bc) 32)).alloc (.cells Xr 100)):=ZF (Z' w _) (Zw _) _;have eT:=Zh hD;have Bd:Hid (Ya ((w.alloc (.cells (Qa kd peer src ly nm sa sl sc ba bl bc) 32)).alloc (.cells Xr 100)) g b R ep):=hD.below Kz;have CS:=Zh (xO _ l ((w.alloc (.cells (Qa kd peer src ly nm sa sl sc ba bl bc) 32)).alloc (.cells Xr 100)) (hv.below Kz));have JX:=Zh Ac;have HZ:=Zh hz;have RM:=Zh Kz;clear hD hv Ac hz Kz h3;generalize YG R ep peer l=X at *
 generalize XN l=Y at *
 generalize (Yj l).1=IL at *
 obtain ⟨ev,er⟩:=Y;dsimp only at HX Mr CS;go_enter Tryz.func76,Tryz.ntmps76;go_upto_region 2 with (go_at_call 105;refine CS.o.mono ?_;rintro e w2 ⟨⟨a,rfl,Ma⟩,Y7⟩;have DD:=Zh Ma;have X8:=Zh Y7;clear Ma Y7)
 clear CS;generalize ((w.alloc (.cells (Qa kd peer src ly nm sa sl sc ba bl bc) 32)).alloc (.cells Xr 100))=w1 at *
 have Zz:Hid (∀ w',Below w1 w1 w'→w'.cell? ⟨g,0,none⟩=some (.pointer (some ⟨b,0,none⟩))∧w'.cell? ⟨w,1,none⟩=some (.int .i64 peer)):=fun w' h=>
  ⟨(Bd.o.below h).cells.1,by rw [cell_of ((h.block w.heap.size (ZW JX.o)).trans JX.o) 1];rfl⟩
 have UD:Hid (∀ w' cs T,Below w w w'→Yd w' cs T→X=((T,R),ep)→(∃ cs':List Value,Ending.returned (.agg cs.toArray) = .returned (.agg cs'.toArray)∧Yd w' cs' X.1.1)∧Ya w' g b X.1.2 X.2∧Fr w (fun k=>k=b∨k=g) w w'):=fun w' cs T h1 h2 h3=>by
  rw [h3];exact ⟨⟨cs,rfl,h2⟩,eT.o.below h1,Fr.Z7 _ h1⟩
 by_cases RU:er=0
 ·subst RU;rw [Z4 Zi] at HX;have hpd:=Mr.o rfl;subst hpd;dsimp only at HX;have HJ:=Zh (Ty b R peer w2.drew ((Bd.o.room.below X8.o).below (YJ _ _).drew));go_upto_region 4 with fail
  refine SX ?_;refine wp_region_held_drew (S:=(fun w'=>w'.cell? ⟨g,0,none⟩=some (.pointer (some ⟨b,0,none⟩))∧w'.cell? ⟨w,1,none⟩=some (.int .i64 peer))) ZB ?_ (fun Ye=>?_)
  ·(try dsimp only)
   exact Zz.o _ X8.o.drew
  refine YA 0 (h:=YA 1 (h:=YA 2 (h:=YA 3 (h:=YA 4 (h:=YA 5 (h:=?_))))));refine R7 6 (h:=fun K hK=>?_);go_simp;refine HJ.o.mono ?_;rintro e w' ⟨rfl,rfl⟩;go_wp2_with fail
  refine hK.out _ _ ?_ (fun XU=>?_)
  ·(try dsimp only)
   exact Zz.o _ X8.o.drew
  clear hK K;try simp only [Z_.pt]
  refine YA 7 (h:=?_);refine wpAnyH_done ZB ?_ _;refine RA ?_;clear Ye XU Zz;have Wc:Hid (Below w1 w1 w2.drew):=X8.o.drew;have lW:Hid (vv w2.drew a (.XX IL)):=DD.o.below (YJ _ _).drew;clear X8 DD HJ;generalize w2.drew=w3 at *
  clear w2;by_cases hj:Y_ R peer=true
  ·rw [hj,Z4 Zi] at HX;rw [hj];have as1:=zq;obtain ⟨iv,ha,hP⟩:=lW.o;subst ha;have hM:=Z8 w3 (.cells UM 97);have Ux:Hid (Below w3 w3 ((w3.alloc (.cells UM 97)).setRow w3.heap.size UM)):=Z3 (Z' w3 _) (Zw _) _;have HP:=Zh hP;clear lW hP;go_upto_region 9 with (with_reducible refine ZU 97 (.tmp 7) (.tmp 39) rfl ?_;refine ZV rfl 97 (.tmp 7) (.tmp 39) rfl rfl w3.heap.size UM rfl rfl 97 UM hM ZB ZB ZB ?_)
   clear hM;generalize ((w3.alloc (.cells UM 97)).setRow w3.heap.size UM)=w4 at *
   have CF:=Zh (lR iv IL w4 (HP.o.below Ux.o) PJ.o.1 (by have:=PJ.o.2;omega));have aI:Hid (Below w1 w1 w4):=Wc.o.trans (Ux.o.mono Wc.o.size);clear Wc Ux HP
   go_upto_region 10 with (first|(go_at_call 107;refine CF.o.mono ?_;rintro e w5 ⟨⟨v',rfl,hit⟩,MI⟩;have ag:(w5.alloc (.cells VC 79)).heap.size=w5.heap.size+1:=(by show (w5.heap.push _).size=_;rw [OI]);have hzp:((w5.alloc (.cells VC 79)).alloc (.cells (Qd 0 false false 0) 81)).heap[w5.heap.size]?=some (.cells VC 79 (0,0)):=(by rw [(Z' _ _).block _ (by rw [ag];exact Nat.lt_succ_self _)];exact Z8 w5 _);have dY:(((w5.alloc (.cells VC 79)).alloc (.cells (Qd 0 false false 0) 81)).setRow w5.heap.size VC).heap[w5.heap.size+1]?=some (.cells (Qd 0 false false 0) 81 (0,0)):=(by rw [setRow_other _ _ _ _ Zo];have h:=Z8 (w5.alloc (.cells VC 79)) (.cells (Qd 0 false false 0) 81);rw [ag] at h;exact h);have aJ:=Zh (aI.o.trans (MI.mono aI.o.size));have FV:=Zh hit;clear hit MI)|(with_reducible refine ZU 79 (.tmp 9) (.tmp 50) rfl ?_;refine ZV rfl 79 (.tmp 9) (.tmp 50) rfl rfl w5.heap.size VC rfl rfl 79 VC hzp ZB ZB ZB ?_)|(with_reducible refine ZU 81 (.tmp 10) (.tmp 51) rfl ?_;refine ZV rfl 81 (.tmp 10) (.tmp 51) rfl rfl (w5.heap.size+1) (Qd 0 false false 0) rfl rfl 81 (Qd 0 false false 0) dY ZB ZB ZB ?_))
   have aK:Hid (Below w5 w5 ((((w5.alloc (.cells VC 79)).alloc (.cells (Qd 0 false false 0) 81)).setRow w5.heap.size VC).setRow (w5.heap.size+1) (Qd 0 false false 0))):=Z3 (Z3 (ZF (Z' w5 _) (Zw _) _) (Zw _) _) (Ix _) _;have mf:=Zh (FV.o.below aK.o);have iq:Hid (Below w1 w1 ((((w5.alloc (.cells VC 79)).alloc (.cells (Qd 0 false false 0) 81)).setRow w5.heap.size VC).setRow (w5.heap.size+1) (Qd 0 false false 0))):=aJ.o.trans (aK.o.mono aJ.o.size);clear hzp dY ag aK FV aJ CF aI;generalize ((((w5.alloc (.cells VC 79)).alloc (.cells (Qd 0 false false 0) 81)).setRow w5.heap.size VC).setRow (w5.heap.size+1) (Qd 0 false false 0))=w6 at *
   obtain ⟨LV,hLV,ZY,gH⟩:=mf.o;obtain ⟨va,vc,kC⟩:=Row.form ZY;subst kC;have hlen:LV.length≤8:=by have h:=PJ.o.2;rw [hLV,TB] at h;exact h
   have dX:=Z8 w6 (.cells Xr 100);go_upto_region 11 with (with_reducible refine ZU 100 (.tmp 12) (.tmp 54) rfl ?_;refine ZV rfl 100 (.tmp 12) (.tmp 54) rfl rfl w6.heap.size (Qm 0 0 0 0 false 0 0 0 0 none 0 0 false 0 none 0 0 none 0 0 0 0 false false 0 va LV.length vc none 0 0 0) rfl rfl 100 Xr dX ZB ZB ZB ?_)
   have cK:Below w6 w6 ((w6.alloc (.cells Xr 100)).setRow w6.heap.size (Qm 0 0 0 0 false 0 0 0 0 none 0 0 false 0 none 0 0 none 0 0 0 0 false false 0 va LV.length vc none 0 0 0)):=Z3 (Z' w6 _) (Zw _) _;have n7:Below w1 w1 ((w6.alloc (.cells Xr 100)).setRow w6.heap.size (Qm 0 0 0 0 false 0 0 0 0 none 0 0 false 0 none 0 0 none 0 0 0 0 false false 0 va LV.length vc none 0 0 0)):=iq.o.trans (cK.mono iq.o.size)
   have HDL0:Hid (DL w ((w6.alloc (.cells Xr 100)).setRow w6.heap.size (Qm 0 0 0 0 false 0 0 0 0 none 0 0 false 0 none 0 0 none 0 0 0 0 false false 0 va LV.length vc none 0 0 0)) g b w6.heap.size ep (Qa kd peer src ly nm sa sl sc ba bl bc) (.slice va LV.length vc) LV (.slice none 0 0) 0 (.slice none 0 0) [] R):=
    ⟨Fr.Z7 _ (RM.o.trans (n7.mono RM.o.size)),(n7.block _ (ZW JX.o)).trans JX.o,(n7.block _ (ZW HZ.o)).trans HZ.o,setRow_heap _ _ _ _ _ _ dX,Ms.below ⟨ZY,gH⟩ cK,TY _ _ _ _,Bd.o.below n7,OS (ZW HZ.o) iq.o.size,W8,Bh⟩
   clear dX cK n7 ZY gH mf iq;generalize ((w6.alloc (.cells Xr 100)).setRow w6.heap.size (Qm 0 0 0 0 false 0 0 0 0 none 0 0 false 0 none 0 0 none 0 0 0 0 false false 0 va LV.length vc none 0 0 0))=w7 at *
   generalize w6.heap.size=k at *
   have eY:Hid (∀ j,Inv (ZC peer (IL.take j) R).1.2∧V8 (ZC peer (IL.take j) R).1.2∧(ZC peer (IL.take j) R).1.1.length≤3000*(IL.take j).length∧0≤(ZC peer (IL.take j) R).2∧(ZC peer (IL.take j) R).2≤1000*(IL.take j).length):=fun j=>QV peer (IL.take j) R hI hS (fun i hi=>PJ.o.1 i (List.mem_of_mem_take hi))
   have fe:=Zh hLV;go_wp2_with fail
   go_loopw [57] (fun s57 w'=>∃ (j:Nat) (tv:Value),j≤LV.length∧s57 = .int .i64 (j:Int)∧DL w w' g b k ep (Qa kd peer src ly nm sa sl sc ba bl bc) (.slice va LV.length vc) LV tv (ZC peer (IL.take j) R).2 tv (ZC peer (IL.take j) R).1.1 (ZC peer (IL.take j) R).1.2) (fun s57 _=>LV.length-(intOf s57).toNat)
   case atStart=>exact ⟨0,.slice none 0 0,Zo,rfl,HDL0.o⟩
   case round=>
    obtain ⟨j,tv,hjL,rfl,uG⟩:=hrel;have t_:=Zh uG;clear HDL0;by_cases RV:j<LV.length
    ·obtain ⟨ta,tc,oY,-⟩:=Row.Z6 uG.own;subst oY;obtain ⟨g',off',e2,VQ⟩:=wO uG.its.row Zo;cases e2;have hxj:LV[j]?=some LV[j]:=Vb RV;have VQ:=VQ j _ hxj;have Mx:=uG.its.each LV[j] (PA RV);have Wq:S9 LV[j].i:=PJ.o.1 _ (by rw [fe.o];exact vO.2 ⟨_,PA RV,rfl⟩);have hTK:IL.take (j+1)=IL.take j++[LV[j].i]:=Rb (by rw [fe.o,List.getElem?_map,hxj];rfl);generalize LV[j]=x at *
     clear hxj;obtain ⟨i,bv,gv,pv⟩:=x;obtain ⟨xa,xc,n_⟩:=Row.form Mx.b;obtain ⟨ga,gc,wD⟩:=Row.form Mx.g;obtain ⟨pa,pc,Md⟩:=Row.form Mx.p;dsimp only at n_ wD Md Wq hTK;subst n_;subst wD;subst Md;have M3:wr.rangeAt g' (off'+j*10) (Jq i xa xc ga gc pa pc):=fun m v hm=>(VQ m mP).trans hm
     have JV:=Zh hTK;have LQ:=Zh (Om peer i (IL.take j) R);have ym:=Zh Mx;have HOKI:=Zh Wq;obtain ⟨dS,hv2,hv3,hv4,hv5⟩:=eY.o j;rw [S4] at hv3 hv5;have zW:(j:Int)<(LV.length:Int):=OP.2 RV;have hz:=Z8 wr (.cells YZ 173);have N7:=setRow_heap _ _ _ (Jq i xa xc ga gc pa pc) _ _ hz;have X8:Hid (Below wr wr ((wr.alloc (.cells YZ 173)).setRow wr.heap.size (Jq i xa xc ga gc pa pc))):=Z3 (Z' wr _) (Zw _) _;clear VQ Mx Wq hTK uG;go_upto_region 14 with (first|(with_reducible refine Zj 173 (.tmp 59) rfl ?_;refine wpList_load_mid rfl 173 (.tmp 59) rfl g' (off'+j*10) rfl (Jq i xa xc ga gc pa pc) _ M3 Tryz.underlying173 rfl ZB ?_)|(with_reducible refine ZU 173 (.tmp 14) (.tmp 60) rfl ?_;refine ZV rfl 173 (.tmp 14) (.tmp 60) rfl rfl wr.heap.size (Jq i xa xc ga gc pa pc) rfl rfl 173 YZ hz ZB ZB ZB ?_))
     clear hz M3;have iy:=Zh (t_.o.below X8.o);have HIR2:=Zh (ym.o.below X8.o);generalize ((wr.alloc (.cells YZ 173)).setRow wr.heap.size (Jq i xa xc ga gc pa pc))=w2 at *
     clear t_ ym X8;generalize ZC peer (IL.take j) R=G at *
     obtain ⟨⟨G1,G2⟩,gu⟩:=G;dsimp only at LQ iy dS hv2 hv3 hv4 hv5;have CI:Hid (Calls Tryz.prog 108 (Ji (some ⟨b,0,none⟩) peer (Jq i xa xc ga gc pa pc)) w2.drew fun e w'=>(∃ v,e = .returned (.tuple #[v,.int .i64 (Yf G2 peer i).2])∧YF w' v (Yf G2 peer i).1.1)∧ZT w' b (Yf G2 peer i).1.2∧Fr w2.drew.heap.size (· = b) w2.drew w'):=vD b G2 peer ⟨i,.slice xa i.blocks.length xc,.slice ga i.gone.length gc,.slice pa i.XA.length pc⟩ w2.drew (iy.o.RT.room.below (YJ _ _).drew) dS hv2 HOKI.o (HIR2.o.below (YJ _ _).drew);have HIO:=Ke dS hv2 peer HOKI.o;obtain ⟨-,-,Fk,hy2,hy3⟩:=HIO;generalize Yf G2 peer i=Y at *
     obtain ⟨⟨Y1,Y2⟩,yu⟩:=Y;dsimp only at LQ CI Fk hy2 hy3;have Zz:Hid (∀ w' R',DL w w' g b k ep (Qa kd peer src ly nm sa sl sc ba bl bc) (.slice (some ⟨g',off',none⟩) LV.length vc) LV (.slice ta G1.length tc) gu (.slice ta G1.length tc) G1 R'→w'.cell? ⟨g,0,none⟩=some (.pointer (some ⟨b,0,none⟩))∧w'.cell? ⟨w,1,none⟩=some (.int .i64 peer)):=fun w' R' h=>⟨h.RT.cells.1,Zc h.op 1 rfl⟩
     have lV:=Zh (iy.o.below (YJ _ _).drew);refine SX ?_;refine wp_region_held_drew (S:=(fun w'=>w'.cell? ⟨g,0,none⟩=some (.pointer (some ⟨b,0,none⟩))∧w'.cell? ⟨w,1,none⟩=some (.int .i64 peer))) ZB ?_ (fun Ye=>?_)
     ·(try dsimp only)
      exact Zz.o _ _ lV.o
     refine YA 0 (h:=YA 1 (h:=YA 2 (h:=YA 3 (h:=YA 4 (h:=YA 5 (h:=?_))))));refine R7 6 (h:=fun K hK=>?_);refine Rx Zr 173 (.tmp 14) Zr wr.heap.size Zr 173 (Jq i xa xc ga gc pa pc) (0,0) _ N7 Tryz.underlying173 rfl ZB ?_;refine hK.out _ _ ?_ (fun XU=>?_)
     ·(try dsimp only)
      first|exact Zz.o _ _ iz.o|exact Zz.o _ _ lV.o
     clear hK K;try simp only [Z_.pt]
     refine R7 7 (h:=fun K hK=>?_);go_simp;refine CI.o.mono ?_;rintro e w4 ⟨⟨yv,rfl,S3⟩,Xp,Wu⟩;obtain ⟨ya,yc,hyv,-⟩:=id S3;subst hyv;have iz:=Zh (lV.o.item Xp Wu);have FK:=Zh S3;clear S3 Xp Wu;go_wp2_with fail
     refine hK.out _ _ ?_ (fun VG=>?_)
     ·(try dsimp only)
      first|exact Zz.o _ _ iz.o|exact Zz.o _ _ lV.o
     clear hK K;try simp only [Z_.pt]
     refine YA 8 (h:=YA 9 (h:=YA 10 (h:=YA 11 (h:=YA 12 (h:=?_)))));refine wpAnyH_done ZB ?_ _;refine RA ?_;clear Ye XU VG Zz CI iy lV N7 HIR2;go_upto_region 15 with fail
     have hw15:IntKind.i64.wrap (gu+yu)=gu+yu:=Tm _ Zo;have E0:=Zh (iz.o.below (YJ _ _).drew);obtain ⟨k20,k21,-,-⟩:=E0.o.facts;obtain ⟨m20,m21,-,-⟩:=iz.o.facts;refine SX ?_;refine wp_region_held_drew (S:=(fun w'=>True)) ZB ?_ (fun Ye=>?_)
     ·(try dsimp only)
      try trivial
     refine YA 0 (h:=YA 2 (h:=YA 4 (h:=YA 6 (h:=?_))));refine wpAnyH_ready (rs:=[1,5]) ZB Zi ?_;refine AllReadyH.cons (i:=1) rfl (fun K hK=>?_) ?_
     ·skip
      go_simp;refine hK.out _ _ ?_ (fun XU=>?_)
      ·(try dsimp only)
       try trivial
      clear hK K;try simp only [Z_.pt]
      refine wpAnyH_ready (rs:=[3,5]) ZB Zi ?_;refine AllReadyH.cons (i:=3) rfl (fun K hK=>?_) ?_
      ·skip
       have mF:=Zh (FK.o.below (YJ _ _).drew);refine Zp Zr (.tmp 73) (.tmp 74) 98 Zr w.heap.size XM _ G1.length (G1.flatMap Z9) Zr E0.o.own _ Y1.length (Y1.flatMap Z9) Zr mF.o (VT _) (X_ _) Zo Zo ?_ ?_
       ·have:=E0.o.fr.size;omega
       intro v' w6 HO HG;have NH:Hid (w6.ownsRow w 158 5 v' (G1++Y1).length ((G1++Y1).flatMap Z9)):=iZ;obtain ⟨na,nc,NK,-⟩:=Row.Z6 NH.o;subst NK;have yL:=Zh (E0.o.grown HG.o NH.o);obtain ⟨d20,d21,f20,f21⟩:=yL.o.facts;refine hK.out _ _ ?_ (fun VG=>?_)
       ·(try dsimp only)
        try trivial
       clear hK K;try simp only [Z_.pt]
       refine R7 5 (h:=fun K hK=>?_);go_simp;refine hK.out _ _ ?_ (fun Nj=>?_)
       ·(try dsimp only)
        try trivial
       clear hK K;try simp only [Z_.pt]
       refine YA 7 (h:=YA 8 (h:=?_));refine R7 9 (h:=fun K hK=>?_);go_simp;have yM:=Zh (yL.o.set 20 (.slice na (G1++Y1).length nc) (.slice na (G1++Y1).length nc) gu rfl);obtain ⟨h20,h21,g20,g21⟩:=yM.o.facts;refine hK.out _ _ ?_ (fun Gu=>?_)
       ·(try dsimp only)
        try trivial
       clear hK K;try simp only [Z_.pt]
       refine YA 10 (h:=?_);refine R7 11 (h:=fun K hK=>?_);go_simp;have aQ:=Zh (yM.o.set 21 (.int .i64 (gu+yu)) (.slice na (G1++Y1).length nc) (gu+yu) rfl);refine hK.out _ _ ?_ (fun Gv=>?_)
       ·(try dsimp only)
        try trivial
       exact bN
      refine AllReadyH.cons (i:=5) rfl (fun K hK=>?_) AllReadyH.nil;go_simp;refine hK.out _ _ ?_ (fun nU=>?_)
      ·(try dsimp only)
       try trivial
      clear hK K;try simp only [Z_.pt]
      refine YA 7 (h:=?_);refine R7 3 (h:=fun K hK=>?_);have mF:=Zh (FK.o.below (YJ _ _).drew);refine Zp Zr (.tmp 73) (.tmp 74) 98 Zr w.heap.size XM _ G1.length (G1.flatMap Z9) Zr E0.o.own _ Y1.length (Y1.flatMap Z9) Zr mF.o (VT _) (X_ _) Zo Zo ?_ ?_
      ·have:=E0.o.fr.size;omega
      intro v' w6 HO HG;have NH:Hid (w6.ownsRow w 158 5 v' (G1++Y1).length ((G1++Y1).flatMap Z9)):=iZ;obtain ⟨na,nc,NK,-⟩:=Row.Z6 NH.o;subst NK;have yL:=Zh (E0.o.grown HG.o NH.o);obtain ⟨d20,d21,f20,f21⟩:=yL.o.facts;refine hK.out _ _ ?_ (fun cE=>?_)
      ·(try dsimp only)
       try trivial
      clear hK K;try simp only [Z_.pt]
      refine YA 8 (h:=?_);refine R7 9 (h:=fun K hK=>?_);go_simp;have yM:=Zh (yL.o.set 20 (.slice na (G1++Y1).length nc) (.slice na (G1++Y1).length nc) gu rfl);obtain ⟨h20,h21,g20,g21⟩:=yM.o.facts;refine hK.out _ _ ?_ (fun cF=>?_)
      ·(try dsimp only)
       try trivial
      clear hK K;try simp only [Z_.pt]
      refine YA 10 (h:=?_);refine R7 11 (h:=fun K hK=>?_);go_simp;have aQ:=Zh (yM.o.set 21 (.int .i64 (gu+yu)) (.slice na (G1++Y1).length nc) (gu+yu) rfl);refine hK.out _ _ ?_ (fun cG=>?_)
      ·(try dsimp only)
       try trivial
      exact bN
     refine AllReadyH.cons (i:=5) rfl (fun K hK=>?_) AllReadyH.nil;go_simp;refine hK.out _ _ ?_ (fun Cf=>?_)
     ·(try dsimp only)
      try trivial
     clear hK K;try simp only [Z_.pt]
     refine YA 7 (h:=?_);refine R7 1 (h:=fun K hK=>?_);go_simp;refine hK.out _ _ ?_ (fun Cg=>?_)
     ·(try dsimp only)
      try trivial
     clear hK K;try simp only [Z_.pt]
     refine R7 3 (h:=fun K hK=>?_);have mF:=Zh (FK.o.below (YJ _ _).drew);refine Zp Zr (.tmp 73) (.tmp 74) 98 Zr w.heap.size XM _ G1.length (G1.flatMap Z9) Zr E0.o.own _ Y1.length (Y1.flatMap Z9) Zr mF.o (VT _) (X_ _) Zo Zo ?_ ?_
     ·have:=E0.o.fr.size;omega
     intro v' w6 HO HG;have NH:Hid (w6.ownsRow w 158 5 v' (G1++Y1).length ((G1++Y1).flatMap Z9)):=iZ;obtain ⟨na,nc,NK,-⟩:=Row.Z6 NH.o;subst NK;have yL:=Zh (E0.o.grown HG.o NH.o);obtain ⟨d20,d21,f20,f21⟩:=yL.o.facts;refine hK.out _ _ ?_ (fun Ch=>?_)
     ·(try dsimp only)
      try trivial
     clear hK K;try simp only [Z_.pt]
     refine YA 8 (h:=?_);refine R7 9 (h:=fun K hK=>?_);go_simp;have yM:=Zh (yL.o.set 20 (.slice na (G1++Y1).length nc) (.slice na (G1++Y1).length nc) gu rfl);obtain ⟨h20,h21,g20,g21⟩:=yM.o.facts;refine hK.out _ _ ?_ (fun Ci=>?_)
     ·(try dsimp only)
      try trivial
     clear hK K;try simp only [Z_.pt]
     refine YA 10 (h:=?_);refine R7 11 (h:=fun K hK=>?_);go_simp;have aQ:=Zh (yM.o.set 21 (.int .i64 (gu+yu)) (.slice na (G1++Y1).length nc) (gu+yu) rfl);refine hK.out _ _ ?_ (fun uB=>?_)
     ·(try dsimp only)
      try trivial
     exact bN
    ·have Mc:j=LV.length:=by omega
     have hT:IL.take j=IL:=by rw [Mc,fe.o];exact FL (by rw [TB];exact Zw _)
     rw [hT] at t_;obtain ⟨ta,tc,oY,-⟩:=Row.Z6 t_.o.own;subst oY;clear uG eY hT;generalize ZC peer IL R=G at *
     obtain ⟨⟨G1,G2⟩,gu⟩:=G;dsimp only at HX t_;have hk:=t_.o.Y8;unfold Dp at hk;have CC:=Zh (I2 g (.pointer (some ⟨b,0,none⟩)) ep (Qm 0 0 0 0 false 0 0 0 0 none 0 0 false 0 none 0 0 none 0 0 0 0 false false 0 va LV.length vc ta G1.length tc gu) wr t_.o.RT.Y8 h0 h9 rfl ZB);have bu:Hid (Yd wr ((((Qm 0 0 0 0 false 0 0 0 0 none 0 0 false 0 none 0 0 none 0 0 0 0 false false 0 va LV.length vc ta G1.length tc gu):List Value).set 0 (.int .i64 2)).set 2 (.int .i64 (ep+1))) (Ub (ep+1) IL G1 gu)):=⟨_,_,_,_,_,rfl,Vy.nil _,⟨LV,fe.o,t_.o.its⟩,Row.Z6 t_.o.own⟩;have eN:=Zh t_.o.RT.apart;have hzr:=t_.o.z;generalize R4:((((Qm 0 0 0 0 false 0 0 0 0 none 0 0 false 0 none 0 0 none 0 0 0 0 false false 0 va LV.length vc ta G1.length tc gu):List Value).set 0 (.int .i64 2)).set 2 (.int .i64 (ep+1)))=cs at *
     clear R4;go_wp2_with (first|(with_reducible refine Zj 100 (.tmp 12) rfl ?_;refine Zf rfl 100 (.tmp 12) rfl k rfl 100 (Qm 0 0 0 0 false 0 0 0 0 none 0 0 false 0 none 0 0 none 0 0 0 0 false false 0 va LV.length vc ta G1.length tc gu) (0,0) _ hk Tryz.underlying100 rfl ZB ?_)|(go_at_call 79;refine CC.o.mono ?_;rintro e w5 ⟨rfl,cU,sy⟩;have Hv:=Zh sy;have JG:=(sy.block (w.heap.size+1) (ZW hzr) Zo).trans hzr;have JV:Hid (Yd w5 cs (Ub (ep+1) IL G1 gu)):=bu.o.fr sy (fun k hk=>eN.o k (Wh hk));have HD5:Hid (Ya w5 g b G2 (ep+1)):=⟨cU,t_.o.RT.room.fr sy (Zw _) (fun h=>wC (Eq.symm h)) (fun k c fr hk=>eN.o.ne Zi k c fr (Wh hk))⟩;have hi:=QA JV.o;have hold:=P_ JV.o;have O_:=JV.o.one;clear cU sy CC)|(with_reducible refine ZU 100 (.tmp 4) (.tmp 85) rfl ?_;refine ZV rfl 100 (.tmp 4) (.tmp 85) rfl rfl (w.heap.size+1) cs.toArray rfl rfl 100 Xr JG hi hold O_ ?_))
     refine VD (v:= .agg cs.toArray) ?_ rfl ?_
     ·exact ni
     rw [HX.o];refine ⟨⟨cs,rfl,JV.o.setRow JG _⟩,HD5.o.setRow JG Zo Zo _,?_⟩;exact L3 (t_.o.fr.trans (Hv.o.mono t_.o.fr.size (fun _ _ h=>Wh h))) (Ix _) _
  ·exact Yx38
 ·exact Yx34
theorem BW (g b:Nat) (R:Room) (ep kd peer src ly:Int) (nm:ByteArray) (sa ba:Option Addr) (sl sc bl bc:Nat) (l:List UInt8) (w:World) (hD:Ya w g b R ep) (hI:Inv R) (hS:V8 R) (h0:0≤ep) (h9:ep<1000000000) (hv:X6 w (.slice ba bl bc) l) :
  Calls Tryz.prog 76 (Qi (some ⟨g,0,none⟩) (Qa kd peer src ly nm sa sl sc ba bl bc)) w fun e w'=>(∃ cs:List Value,e = .returned (.agg cs.toArray)∧Yd w' cs (YG R ep peer l).1.1)∧Ya w' g b (YG R ep peer l).1.2 (YG R ep peer l).2∧Fr w (fun k=>k=b∨k=g) w w':=by
 by_cases h3:192≤at8 l 1∧at8 l 1≤223
 ·exact E_ g b R ep kd peer src ly nm sa ba sl sc bl bc l w hD hI hS h0 h9 hv h3
 ·exact Gg g b R ep kd peer src ly nm sa ba sl sc bl bc l w hD hI hS.short hv h3
end Go.Proofs.By
