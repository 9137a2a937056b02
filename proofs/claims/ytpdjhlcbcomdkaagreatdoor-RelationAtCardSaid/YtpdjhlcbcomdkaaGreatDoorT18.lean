/- Part of a proof. -/
import Derived.Test.YtpdjhlcbcomdkaaGreatDoorT17
set_option linter.unusedVariables false
set_option linter.unusedSimpArgs false
set_option maxRecDepth 100000
set_option maxHeartbeats 16000000
open Go Go.Q Go.Qr Go.Proofs.Tryz
namespace Go.Proofs.By
open Go.RowKit Go.Proofs.Heap
open Go.Proofs.Rm (YD YF Room ZR Inv Wn Y_ Tv Z7 Xy Vx X4 Wv YL)
theorem XL{w w':World}{base:Nat}{e:TypeId}{size:Nat}{v:Value}{n:Nat}{xs:List Value}(h:w.ownsRow base e size v n xs)(hb:∀k,v.ownBlock=some k→w'.heap[k]?=w.heap[k]?):w'.ownsRow base e size v n xs:=by
 obtain⟨hl,h⟩:=h;refine⟨hl,?_⟩;rcases h with h|⟨g,cap,cur,rfl,hg,hh,h1,h2,h3,h4⟩
 ·exact WO h
 ·exact WB ⟨g,cap,cur,rfl,hg,(hb g rfl).trans hh,h1,h2,h3,h4⟩
theorem LZ.below{w w':World}{v:Value}{L:List RF}(h:LZ w v L)(hb:Below w w w'):LZ w' v L:=⟨h.row.below hb,fun x hx=>(h.each x hx).below hb⟩
theorem LZ.fr{w w':World}{v:Value}{L:List RF}{S:Nat→Prop}(h:LZ w v L)(hf:Fr w S w w')(hS:JX w S):LZ w' v L:=
 ⟨Row.fr h.row hf (Zw _) (hS.ne Zi),fun x hx=>⟨Row.fr (h.each x hx).b hf (Zw _) (hS.ne Zi),Row.fr (h.each x hx).g hf (Zw _) (hS.ne Zi),Row.fr (h.each x hx).p hf (Zw _) (hS.ne Zi)⟩⟩
def BI(iv tv u:Value):Array Value:=#[.int .i64 0,.int .i64 0,.int .i64 0,.int .i64 0,.bool false,.int .i64 0,.int .u16 0,.int .u32 0,.int .u32 0,.slice none 0 0,.bool false,.int .u16 0,.slice none 0 0,.slice none 0 0,.int .i64 0,.int .i64 0,.bool false,.bool false,.int .u16 0,iv,tv,u]
structure DL(w w':World)(g b k:Nat)(ep:Int)(oc:Array Value)(iv:Value)(LV:List RF)(og:Value)(cu:Int)(tv:Value)(ts:List YF)(Q:Room):Prop where
 fr:Fr w (fun j=>j=b∨j=g) w w'
 op:w'.heap[w.heap.size]?=some (.cells oc 32 (0,0))
 z:w'.heap[w.heap.size+1]?=some (.cells Xf 100 (0,0))
 Y8:w'.heap[k]?=some (.cells (BI iv og (.int .i64 cu)) 100 (0,0))
 its:LZ w' iv LV
 own:w'.ownsRow w 158 5 tv ts.length (ts.flatMap Z7)
 RJ:X8 w' g b Q ep
 kl:w.heap.size+1<k
 bl:b<w.heap.size
 gl:g<w.heap.size
section
variable {w w1 w2:World} {g b k:Nat} {ep:Int} {oc:Array Value} {iv:Value} {LV:List RF} {og:Value} {cu:Int} {tv:Value} {ts:List YF} {Q:Room}
theorem DL.below(h:DL w w1 g b k ep oc iv LV og cu tv ts Q)(hb:Below w1 w1 w2):DL w w2 g b k ep oc iv LV og cu tv ts Q:=
 ⟨h.fr.trans (Fr.Z6 _ (hb.mono h.fr.size)),(hb.block _ (ZX h.op)).trans h.op,(hb.block _ (ZX h.z)).trans h.z,(hb.block _ (ZX h.Y8)).trans h.Y8,h.its.below hb,Yv h.own hb,h.RJ.below hb,h.kl,h.bl,h.gl⟩
theorem DL.item(h:DL w w1 g b k ep oc iv LV og cu tv ts Q){Q':Room}(hr:ZR w2 b Q')(hf:Fr w1 (· = b) w1 w2):DL w w2 g b k ep oc iv LV og cu tv ts Q':=by
 have hb:=h.bl;have hk:=h.kl;exact⟨h.fr.trans (hf.mono h.fr.size (fun _ _ h=>WO h)),(hf.block _ (ZX h.op) Zo).trans h.op,(hf.block _ (ZX h.z) Zo).trans h.z,(hf.block _ (ZX h.Y8) Zo).trans h.Y8,h.its.fr hf (fun j hj=>h.RJ.apart j (WO hj)),Wv h.own hf (fun j hj=>by have hj:j=b:=hj;omega),⟨(hf.block g (ZX h.RJ.Y8) h.RJ.ne).trans h.RJ.Y8,hr⟩,h.kl,h.bl,h.gl⟩
theorem DL.grown(h:DL w w1 g b k ep oc iv LV og cu tv ts Q)(hg:w1.grownBy w2 tv.ownBlock){tv':Value}{ts':List YF}(ho:w2.ownsRow w 158 5 tv' ts'.length (ts'.flatMap Z7)):DL w w2 g b k ep oc iv LV og cu tv' ts' Q:=by
 have WN:∀ {j c e f},w1.heap[j]?=some (.cells c e f)→e≠158→tv.ownBlock≠some j:=fun hj he ho=>Y7 h.own he _ _ _ ho hj
 have hf:=XS hg;have ht:∀e,e≠158→∀j c fr,tv.ownBlock=some j→w1.heap[j]?≠some (.cells c e fr):=fun e he=>Y7 h.own he
 exact⟨h.fr.grown hg h.fr.size (YL h.own),(hg.block _ (ZX h.op) (fun e=>WN h.op Zd e.symm)).trans h.op,(hg.block _ (ZX h.z) (fun e=>WN h.z Zd e.symm)).trans h.z,(hg.block _ (ZX h.Y8) (fun e=>WN h.Y8 Zd e.symm)).trans h.Y8,
  ⟨Row.fr h.its.row hf (Zw _) (ht _ Zd),fun x hx=>(h.its.each x hx).wJ hf (ht _ Zd) (ht _ Zd) (ht _ Zd)⟩,ho,
  ⟨(hg.block _ (ZX h.RJ.Y8) (fun e=>WN h.RJ.Y8 Zd e.symm)).trans h.RJ.Y8,ZR.grown h.RJ.room h.own hg h.bl Zd⟩,h.kl,h.bl,h.gl⟩
theorem DL.set(h:DL w w1 g b k ep oc iv LV og cu tv ts Q)(o:Nat)(v ctv':Value)(cu':Int)(hc:(BI iv og (.int .i64 cu)).setIfInBounds o v=BI iv ctv' (.int .i64 cu')):DL w (w1.setCell ⟨k,o,none⟩ v) g b k ep oc iv LV ctv' cu' tv ts Q:=by
 have hk:=h.kl;have hb:=h.bl;have zZ:=h.gl;have hf:Fr w1 (· = k) w1 (w1.setCell ⟨k,o,none⟩ v):=(Fr.refl _ _ _).setAt _ _
 have GX:∀e,100≠e→∀j c fr,j=k→w1.heap[j]?≠some (.cells c e fr):=by
  intro e he j c fr hj hc;rw[hj,h.Y8]at hc;injection hc with hc
  injection hc with _ hc
  exact he hc
 have lZ:=VH h.Y8 o v;rw[hc]at lZ
 exact⟨h.fr.setCell (p:=⟨k,o,none⟩) (WO (by show _≤k;omega)) _,(hf.block _ (ZX h.op) Zo).trans h.op,(hf.block _ (ZX h.z) Zo).trans h.z,lZ,
  h.its.fr hf (fun j hj=>by have hj:j=k:=hj;subst hj;exact⟨_,_,_,h.Y8,by decide,by decide,by decide,by decide,by decide,by decide,by decide⟩),
  XL h.own (fun j hj=>by
   by_cases Ik:j=k
   ·subst Ik;exact absurd h.Y8 (Y7 h.own Zd _ _ _ hj)
   ·exact Mg w1 ⟨k,o,none⟩ _ j Ik),
  ⟨(hf.block g (ZX h.RJ.Y8) Zo).trans h.RJ.Y8,h.RJ.room.fr hf (Zw _) Zo (GX _ Zd)⟩,h.kl,h.bl,h.gl⟩
theorem DL.facts(h:DL w w1 g b k ep oc iv LV og cu tv ts Q):w1.cell? ⟨k,20,none⟩=some og∧w1.cell? ⟨k,21,none⟩=some (.int .i64 cu)∧w1.frozen? ⟨k,20,none⟩=false∧w1.frozen? ⟨k,21,none⟩=false:=
 ⟨Zc h.Y8 20 rfl,Zc h.Y8 21 rfl,ZP h.Y8 20,ZP h.Y8 21⟩
end
theorem QX{α:Type}{l:List α}{k:Nat}{x:α}(h:l[k]?=some x):l.take (k+1)=l.take k++[x]:=by
 obtain⟨h1,h2⟩:=List.getElem?_eq_some_iff.1 h;rw[List.take_succ_eq_append_getElem h1,h2]
theorem Ec(g b:Nat)(R:Room)(ep kd peer src ly:Int)(nm:ByteArray)(sa ba:Option Addr)(sl sc bl bc:Nat)(l:List UInt8)(w:World)(hD:X8 w g b R ep)(hI:Inv R)(hS:Wn R)(h0:0≤ep)(h9:ep<1000000000)(hv:X5 w (.slice ba bl bc) l)(h3:192≤at8 l 1∧at8 l 1≤223) :
  Calls prog 76 (Qi (some ⟨g,0,none⟩) (Qa kd peer src ly nm sa sl sc ba bl bc)) w fun e w'=>(∃cs:List Value,e = .returned (.agg cs.toArray)∧Ye w' cs (YJ R ep peer l).1.1)∧X8 w' g b (YJ R ep peer l).1.2 (YJ R ep peer l).2∧Fr w (fun k=>k=b∨k=g) w w':=by
 have HX:Hid (YJ R ep peer l=if(XY l).2≠0 then((Yi 3 (XY l).2,R),ep)else if !Y_ R peer then((Yi 4 0,R),ep)else match(XY l).1 with
  | .XT p d=>((VW R ep peer p d,R),ep)
  | .Yb l=>((Uq (ep+1) l (ZA peer l R).1.1 (ZA peer l R).2,(ZA peer l R).1.2),ep+1)
  | .none=>((Uq (ep+1) [] [] 0,R),ep+1)):=rfl
 have LY:Hid ((XY l).2=0→(XY l).1 = .Yb (Yq l).1):=fun h=>Pf h3 h
 have Px:=Zh (Tm l);have zZ:=hD.cells.2.2.2;have WX:=hD.room.lt;have uD:=hD.ne
 have yH:((w.alloc (.cells (Qa kd peer src ly nm sa sl sc ba bl bc) 32)).alloc (.cells Xf 100)).heap[w.heap.size]?=some (.cells (Qa kd peer src ly nm sa sl sc ba bl bc) 32 (0,0)):=by
  rw[(Z' _ _).block _ AB];exact Z9 w _
 have hz:((w.alloc (.cells (Qa kd peer src ly nm sa sl sc ba bl bc) 32)).alloc (.cells Xf 100)).heap[w.heap.size+1]?=some (.cells Xf 100 (0,0)):=by
  exact Yx49
 have JW:Below w w ((w.alloc (.cells (Qa kd peer src ly nm sa sl sc ba bl bc) 32)).alloc (.cells Xf 100)):=ZF (Z' w _) (Zw _) _;have bD:=Zh hD;have BV:Hid (X8 ((w.alloc (.cells (Qa kd peer src ly nm sa sl sc ba bl bc) 32)).alloc (.cells Xf 100)) g b R ep):=hD.below JW;have CS:=Zh (vK _ l ((w.alloc (.cells (Qa kd peer src ly nm sa sl sc ba bl bc) 32)).alloc (.cells Xf 100)) (hv.below JW));have IM:=Zh yH;have HZ:=Zh hz;have RD:=Zh JW;clear hD hv yH hz JW h3;generalize YJ R ep peer l=X at *
 generalize XY l=Y at *
 generalize(Yq l).1=IL at *
 obtain⟨ev,er⟩:=Y;dsimp only at HX LY CS;go_enter func76,ntmps76;go_upto_region 2 with(go_at_call 105;refine CS.o.mono ?_;rintro e w2 ⟨⟨a,rfl,Kt⟩,Zb⟩;have zW:=Zh Kt;have Yg:=Zh Zb;clear Kt Zb)
 clear CS;generalize((w.alloc (.cells (Qa kd peer src ly nm sa sl sc ba bl bc) 32)).alloc (.cells Xf 100))=w1 at *
 have ZB:Hid (∀w',Below w1 w1 w'→w'.cell? ⟨g,0,none⟩=some (.pointer (some ⟨b,0,none⟩))∧w'.cell? ⟨w,1,none⟩=some (.int .i64 peer)):=fun w' h=>
  ⟨(BV.o.below h).cells.1,by rw[cell_of ((h.block w (ZX IM.o)).trans IM.o) 1];rfl⟩
 have UF:Hid (∀w' cs T,Below w w w'→Ye w' cs T→X=((T,R),ep)→(∃cs':List Value,Ending.returned (.agg cs.toArray) = .returned (.agg cs'.toArray)∧Ye w' cs' X.1.1)∧X8 w' g b X.1.2 X.2∧Fr w (fun k=>k=b∨k=g) w w'):=fun w' cs T h1 h2 h3=>by
  rw[h3];exact⟨⟨cs,rfl,h2⟩,bD.o.below h1,Fr.Z6 _ h1⟩
 by_cases RM:er=0
 ·subst RM;rw[Z3 Zi]at HX;have hpd:=LY.o rfl;subst hpd;dsimp only at HX;have HJ:=Zh (Tv b R peer w2.drew ((BV.o.room.below Yg.o).below (YI _ _).drew));go_upto_region 4 with fail
  refine R5 ?_;refine wp_region_held_drew (S:=(fun w'=>w'.cell? ⟨g,0,none⟩=some (.pointer (some ⟨b,0,none⟩))∧w'.cell? ⟨w,1,none⟩=some (.int .i64 peer))) X_ ?_ (fun X7=>?_)
  ·exact ZB.o _ Yg.o.drew
  refine YA 0 (h:=YA 1 (h:=YA 2 (h:=YA 3 (h:=YA 4 (h:=YA 5 (h:=?_))))));refine R3 6 (h:=fun K hK=>?_);go_simp;refine HJ.o.mono ?_;rintro e w' ⟨rfl,rfl⟩;go_wp2_with fail
  refine hK.out _ _ ?_ (fun XC=>?_)
  ·exact ZB.o _ Yg.o.drew
  clear hK K;try simp only[Z_.pt]
  refine YA 7 (h:=?_);refine wpAnyH_done X_ ?_ _;refine QZ ?_;clear X7 XC ZB;have WU:Hid (Below w1 w1 w2.drew):=Yg.o.drew;have jv:Hid (tC w2.drew a (.Yb IL)):=zW.o.below (YI _ _).drew;clear Yg zW HJ;generalize w2.drew=w3 at *
  clear w2;by_cases hj:Y_ R peer=true
  ·rw[hj,Z3 Zi]at HX;rw[hj];have as1:=xN;obtain⟨iv,ha,hP⟩:=jv.o;subst ha;have hM:=Z9 w3 (.cells TL 97);have Va:Hid (Below w3 w3 ((w3.alloc (.cells TL 97)).setRow w3 TL)):=Z0 (Z' w3 _) (Zw _) _;have HP:=Zh hP;clear jv hP;go_upto_region 9 with(with_reducible refine Zs hM ?_)
   clear hM;generalize((w3.alloc (.cells TL 97)).setRow w3 TL)=w4 at *
   have CF:=Zh (jm iv IL w4 (HP.o.below Va.o) Px.o.1 (by have:=Px.o.2;omega));have HB14:Hid (Below w1 w1 w4):=Tr WU Va.o;clear WU Va HP;go_upto_region 10 with(first|(go_at_call 107;refine CF.o.mono ?_;rintro e w5 ⟨⟨v',rfl,hit⟩,NI⟩;have hs5:(w5.alloc (.cells U2 79)).heap.size=w5.heap.size+1:=(by show(w5.heap.push _).size=_;rw[Ou]);have hzp:((w5.alloc (.cells U2 79)).alloc (.cells (Qd 0 false false 0) 81)).heap[w5.heap.size]?=some (.cells U2 79 (0,0)):=(by rw[(Z' _ _).block _ (by rw[hs5];exact Nat.lt_succ_self _)];exact Z9 w5 _);have aR:(((w5.alloc (.cells U2 79)).alloc (.cells (Qd 0 false false 0) 81)).setRow w5 U2).heap[w5.heap.size+1]?=some (.cells (Qd 0 false false 0) 81 (0,0)):=(by rw[setRow_other _ _ _ _ Zo];have h:=Z9 (w5.alloc (.cells U2 79)) (.cells (Qd 0 false false 0) 81);rw[hs5]at h;exact h);have HB15:=Zh (Tr HB14 NI);have Hb:=Zh hit;clear hit NI)|(with_reducible refine Zs hzp ?_)|(with_reducible refine Zs aR ?_))
   have tD:Hid (Below w5 w5 ((((w5.alloc (.cells U2 79)).alloc (.cells (Qd 0 false false 0) 81)).setRow w5 U2).setRow (w5.heap.size+1) (Qd 0 false false 0))):=Z0 (Z0 (ZF (Z' w5 _) (Zw _) _) (Zw _) _) (J_ _) _;have jB:=Zh (Hb.o.below tD.o);have ed:Hid (Below w1 w1 ((((w5.alloc (.cells U2 79)).alloc (.cells (Qd 0 false false 0) 81)).setRow w5 U2).setRow (w5.heap.size+1) (Qd 0 false false 0))):=Tr HB15 tD.o;clear hzp aR hs5 tD Hb HB15 CF HB14;generalize((((w5.alloc (.cells U2 79)).alloc (.cells (Qd 0 false false 0) 81)).setRow w5 U2).setRow (w5.heap.size+1) (Qd 0 false false 0))=w6 at *
   obtain⟨LV,hLV,ZW,dt⟩:=jB.o;obtain⟨va,vc,h_⟩:=Row.form ZW;subst h_;have hlen:LV.length≤8:=by have h:=Px.o.2;rw[hLV,Tx]at h;exact h
   have aQ:=Z9 w6 (.cells Xf 100);go_upto_region 11 with(with_reducible refine Zs aQ ?_)
   have hb67:Below w6 w6 ((w6.alloc (.cells Xf 100)).setRow w6 (Qm 0 0 0 0 false 0 0 0 0 none 0 0 false 0 none 0 0 none 0 0 0 0 false false 0 va LV.length vc none 0 0 0)):=Z0 (Z' w6 _) (Zw _) _;have lA:Below w1 w1 ((w6.alloc (.cells Xf 100)).setRow w6 (Qm 0 0 0 0 false 0 0 0 0 none 0 0 false 0 none 0 0 none 0 0 0 0 false false 0 va LV.length vc none 0 0 0)):=Tr ed hb67
   have HDL0:Hid (DL w ((w6.alloc (.cells Xf 100)).setRow w6 (Qm 0 0 0 0 false 0 0 0 0 none 0 0 false 0 none 0 0 none 0 0 0 0 false false 0 va LV.length vc none 0 0 0)) g b w6 ep (Qa kd peer src ly nm sa sl sc ba bl bc) (.slice va LV.length vc) LV (.slice none 0 0) 0 (.slice none 0 0) [] R):=
    ⟨Fr.Z6 _ (Tr RD lA),(lA.block _ (ZX IM.o)).trans IM.o,(lA.block _ (ZX HZ.o)).trans HZ.o,setRow_heap _ _ _ _ _ _ aQ,LZ.below ⟨ZW,dt⟩ hb67,TV _ _ _ _,BV.o.below lA,OB (ZX HZ.o) ed.o.size,WX,zZ⟩
   clear aQ hb67 lA ZW dt jB ed;generalize((w6.alloc (.cells Xf 100)).setRow w6 (Qm 0 0 0 0 false 0 0 0 0 none 0 0 false 0 none 0 0 none 0 0 0 0 false false 0 va LV.length vc none 0 0 0))=w7 at *
   generalize w6.heap.size=k at *
   have bH:Hid (∀j,Inv (ZA peer (IL.take j) R).1.2∧Wn (ZA peer (IL.take j) R).1.2∧(ZA peer (IL.take j) R).1.1.length≤3000*(IL.take j).length∧0≤(ZA peer (IL.take j) R).2∧(ZA peer (IL.take j) R).2≤1000*(IL.take j).length):=fun j=>QI peer (IL.take j) R hI hS (fun i hi=>Px.o.1 i (List.mem_of_mem_take hi))
   have jC:=Zh hLV;go_wp2_with fail
   go_loopw [57] (fun s57 w'=>∃(j:Nat) (tv:Value),j≤LV.length∧s57 = .int .i64 (j:Int)∧DL w w' g b k ep (Qa kd peer src ly nm sa sl sc ba bl bc) (.slice va LV.length vc) LV tv (ZA peer (IL.take j) R).2 tv (ZA peer (IL.take j) R).1.1 (ZA peer (IL.take j) R).1.2) (fun s57 _=>LV.length-(intOf s57).toNat)
   case atStart=>exact⟨0,.slice none 0 0,Zo,rfl,HDL0.o⟩
   case round=>
    obtain⟨j,tv,hjL,rfl,sy⟩:=hrel;have rL:=Zh sy;clear HDL0;by_cases RN:j<LV.length
    ·obtain⟨ta,tc,mj,-⟩:=Row.Z4 sy.own;subst mj;obtain⟨g',off',e2,V7⟩:=uO sy.its.row Zo;cases e2;have hxj:LV[j]?=some LV[j]:=Ve RN;have V7:=V7 j _ hxj;have L6:=sy.its.each LV[j] (OC RN);have We:Tf LV[j].i:=Px.o.1 _ (by rw[jC.o];exact wI.2 ⟨_,OC RN,rfl⟩);have hTK:IL.take (j+1)=IL.take j++[LV[j].i]:=QX (by rw[jC.o,List.getElem?_map,hxj];rfl);generalize LV[j]=x at *
     clear hxj;obtain⟨i,bv,gv,pv⟩:=x;obtain⟨xa,xc,lC⟩:=Row.form L6.b;obtain⟨ga,gc,uE⟩:=Row.form L6.g;obtain⟨pa,pc,My⟩:=Row.form L6.p;dsimp only at lC uE My We hTK;subst lC;subst uE;subst My;have NA:wr.rangeAt g' (off'+j*10) (Js i xa xc ga gc pa pc):=fun m v hm=>(V7 m j4).trans hm
     have J1:=Zh hTK;have Lr:=Zh (N8 peer i (IL.take j) R);have wz:=Zh L6;have HOKI:=Zh We;obtain⟨aL,hv2,hv3,hv4,hv5⟩:=bH.o j;rw[SY]at hv3 hv5;have Cy:(j:Int)<(LV.length:Int):=P6.2 RN;have hz:=Z9 wr (.cells Ya 173);have NK:=setRow_heap _ _ _ (Js i xa xc ga gc pa pc) _ _ hz;have Yg:Hid (Below wr wr ((wr.alloc (.cells Ya 173)).setRow wr (Js i xa xc ga gc pa pc))):=Z0 (Z' wr _) (Zw _) _;clear V7 L6 We hTK sy;go_upto_region 14 with(first|(with_reducible refine Zm NA underlying173 ?_)|(with_reducible refine Zs hz ?_))
     clear hz NA;have eu:=Zh (rL.o.below Yg.o);have HIR2:=Zh (wz.o.below Yg.o);generalize((wr.alloc (.cells Ya 173)).setRow wr (Js i xa xc ga gc pa pc))=w2 at *
     clear rL wz Yg;generalize ZA peer (IL.take j) R=G at *
     obtain⟨⟨G1,G2⟩,gu⟩:=G;dsimp only at Lr eu aL hv2 hv3 hv4 hv5;have CI:Hid (Calls prog 108 (Jl (some ⟨b,0,none⟩) peer (Js i xa xc ga gc pa pc)) w2.drew fun e w'=>(∃v,e = .returned (.tuple #[v,.int .i64 (Yh G2 peer i).2])∧YD w' v (Yh G2 peer i).1.1)∧ZR w' b (Yh G2 peer i).1.2∧Fr w2.drew.heap.size (· = b) w2.drew w'):=tM b G2 peer ⟨i,.slice xa i.blocks.length xc,.slice ga i.gone.length gc,.slice pa i.Xo.length pc⟩ w2.drew (eu.o.RJ.room.below (YI _ _).drew) aL hv2 HOKI.o (HIR2.o.below (YI _ _).drew);have HIO:=I_ aL hv2 peer HOKI.o;obtain⟨-,-,Em,hy2,hy3⟩:=HIO;generalize Yh G2 peer i=Y at *
     obtain⟨⟨Y1,Y2⟩,yu⟩:=Y;dsimp only at Lr CI Em hy2 hy3;have ZB:Hid (∀w' R',DL w w' g b k ep (Qa kd peer src ly nm sa sl sc ba bl bc) (.slice (some ⟨g',off',none⟩) LV.length vc) LV (.slice ta G1.length tc) gu (.slice ta G1.length tc) G1 R'→w'.cell? ⟨g,0,none⟩=some (.pointer (some ⟨b,0,none⟩))∧w'.cell? ⟨w,1,none⟩=some (.int .i64 peer)):=fun w' R' h=>⟨h.RJ.cells.1,Zc h.op 1 rfl⟩
     have ju:=Zh (eu.o.below (YI _ _).drew);refine R5 ?_;refine wp_region_held_drew (S:=(fun w'=>w'.cell? ⟨g,0,none⟩=some (.pointer (some ⟨b,0,none⟩))∧w'.cell? ⟨w,1,none⟩=some (.int .i64 peer))) X_ ?_ (fun X7=>?_)
     ·exact ZB.o _ _ ju.o
     refine YA 0 (h:=YA 1 (h:=YA 2 (h:=YA 3 (h:=YA 4 (h:=YA 5 (h:=?_))))));refine R3 6 (h:=fun K hK=>?_);refine Rs Zr 173 (.tmp 14) Zr wr Zr 173 (Js i xa xc ga gc pa pc) (0,0) _ NK underlying173 rfl X_ ?_;refine hK.out _ _ ?_ (fun XC=>?_)
     ·first|exact ZB.o _ _ ey.o|exact ZB.o _ _ ju.o
     clear hK K;try simp only[Z_.pt]
     refine R3 7 (h:=fun K hK=>?_);go_simp;refine CI.o.mono ?_;rintro e w4 ⟨⟨yv,rfl,SX⟩,Xn,Wm⟩;obtain⟨ya,yc,hyv,-⟩:=id SX;subst hyv;have ey:=Zh (ju.o.item Xn Wm);have EL:=Zh SX;clear SX Xn Wm;go_wp2_with fail
     refine hK.out _ _ ?_ (fun Vz=>?_)
     ·first|exact ZB.o _ _ ey.o|exact ZB.o _ _ ju.o
     clear hK K;try simp only[Z_.pt]
     refine YA 8 (h:=YA 9 (h:=YA 10 (h:=YA 11 (h:=YA 12 (h:=?_)))));refine wpAnyH_done X_ ?_ _;refine QZ ?_;clear X7 XC Vz ZB CI eu ju NK HIR2;go_upto_region 15 with fail
     have hw15:IntKind.i64.wrap (gu+yu)=gu+yu:=Te _ Zo;have D3:=Zh (ey.o.below (YI _ _).drew);obtain⟨k20,k21,-,-⟩:=D3.o.facts;obtain⟨m20,m21,-,-⟩:=ey.o.facts;refine R5 ?_;refine wp_region_held_drew (S:=(fun w'=>True)) X_ ?_ (fun X7=>?_)
     ·(try dsimp only)
      try trivial
     refine YA 0 (h:=YA 2 (h:=YA 4 (h:=YA 6 (h:=?_))));refine wpAnyH_ready (rs:=[1,5]) X_ Zi ?_;refine AllReadyH.cons (i:=1) rfl (fun K hK=>?_) ?_
     ·skip
      go_simp;refine hK.out _ _ ?_ (fun XC=>?_)
      ·(try dsimp only)
       try trivial
      clear hK K;try simp only[Z_.pt]
      refine wpAnyH_ready (rs:=[3,5]) X_ Zi ?_;refine AllReadyH.cons (i:=3) rfl (fun K hK=>?_) ?_
      ·skip
       have jR:=Zh (EL.o.below (YI _ _).drew);refine Ze Zr (.tmp 73) (.tmp 74) 98 Zr w Xy _ G1.length (G1.flatMap Z7) Zr D3.o.own _ Y1.length (Y1.flatMap Z7) Zr jR.o (Vx _) (X4 _) Zo Zo ?_ ?_
       ·have:=D3.o.fr.size;omega
       intro v' w6 HO HG;have Nl:Hid (w6.ownsRow w 158 5 v' (G1++Y1).length ((G1++Y1).flatMap Z7)):=ft;obtain⟨na,nc,Nr,-⟩:=Row.Z4 Nl.o;subst Nr;have wX:=Zh (D3.o.grown HG.o Nl.o);obtain⟨d20,d21,f20,f21⟩:=wX.o.facts;refine hK.out _ _ ?_ (fun Vz=>?_)
       ·(try dsimp only)
        try trivial
       clear hK K;try simp only[Z_.pt]
       refine R3 5 (h:=fun K hK=>?_);go_simp;refine hK.out _ _ ?_ (fun N1=>?_)
       ·(try dsimp only)
        try trivial
       clear hK K;try simp only[Z_.pt]
       refine YA 7 (h:=YA 8 (h:=?_));refine R3 9 (h:=fun K hK=>?_);go_simp;have wY:=Zh (wX.o.set 20 (.slice na (G1++Y1).length nc) (.slice na (G1++Y1).length nc) gu rfl);obtain⟨h20,h21,g20,g21⟩:=wY.o.facts;refine hK.out _ _ ?_ (fun I5=>?_)
       ·(try dsimp only)
        try trivial
       clear hK K;try simp only[Z_.pt]
       refine YA 10 (h:=?_);refine R3 11 (h:=fun K hK=>?_);go_simp;have HDL8:=Zh (wY.o.set 21 (.int .i64 (gu+yu)) (.slice na (G1++Y1).length nc) (gu+yu) rfl);refine hK.out _ _ ?_ (fun I6=>?_)
       ·(try dsimp only)
        try trivial
       exact Yx57
      refine AllReadyH.cons (i:=5) rfl (fun K hK=>?_) AllReadyH.nil;go_simp;refine hK.out _ _ ?_ (fun ux=>?_)
      ·(try dsimp only)
       try trivial
      clear hK K;try simp only[Z_.pt]
      refine YA 7 (h:=?_);refine R3 3 (h:=fun K hK=>?_);have jR:=Zh (EL.o.below (YI _ _).drew);refine Ze Zr (.tmp 73) (.tmp 74) 98 Zr w Xy _ G1.length (G1.flatMap Z7) Zr D3.o.own _ Y1.length (Y1.flatMap Z7) Zr jR.o (Vx _) (X4 _) Zo Zo ?_ ?_
      ·have:=D3.o.fr.size;omega
      intro v' w6 HO HG;have Nl:Hid (w6.ownsRow w 158 5 v' (G1++Y1).length ((G1++Y1).flatMap Z7)):=ft;obtain⟨na,nc,Nr,-⟩:=Row.Z4 Nl.o;subst Nr;have wX:=Zh (D3.o.grown HG.o Nl.o);obtain⟨d20,d21,f20,f21⟩:=wX.o.facts;refine hK.out _ _ ?_ (fun hHeld7=>?_)
      ·(try dsimp only)
       try trivial
      clear hK K;try simp only[Z_.pt]
      refine YA 8 (h:=?_);refine R3 9 (h:=fun K hK=>?_);go_simp;have wY:=Zh (wX.o.set 20 (.slice na (G1++Y1).length nc) (.slice na (G1++Y1).length nc) gu rfl);obtain⟨h20,h21,g20,g21⟩:=wY.o.facts;refine hK.out _ _ ?_ (fun hHeld8=>?_)
      ·(try dsimp only)
       try trivial
      clear hK K;try simp only[Z_.pt]
      refine YA 10 (h:=?_);refine R3 11 (h:=fun K hK=>?_);go_simp;have HDL8:=Zh (wY.o.set 21 (.int .i64 (gu+yu)) (.slice na (G1++Y1).length nc) (gu+yu) rfl);refine hK.out _ _ ?_ (fun hHeld9=>?_)
      ·(try dsimp only)
       try trivial
      exact Yx57
     refine AllReadyH.cons (i:=5) rfl (fun K hK=>?_) AllReadyH.nil;go_simp;refine hK.out _ _ ?_ (fun A5=>?_)
     ·(try dsimp only)
      try trivial
     clear hK K;try simp only[Z_.pt]
     refine YA 7 (h:=?_);refine R3 1 (h:=fun K hK=>?_);go_simp;refine hK.out _ _ ?_ (fun A6=>?_)
     ·(try dsimp only)
      try trivial
     clear hK K;try simp only[Z_.pt]
     refine R3 3 (h:=fun K hK=>?_);have jR:=Zh (EL.o.below (YI _ _).drew);refine Ze Zr (.tmp 73) (.tmp 74) 98 Zr w Xy _ G1.length (G1.flatMap Z7) Zr D3.o.own _ Y1.length (Y1.flatMap Z7) Zr jR.o (Vx _) (X4 _) Zo Zo ?_ ?_
     ·have:=D3.o.fr.size;omega
     intro v' w6 HO HG;have Nl:Hid (w6.ownsRow w 158 5 v' (G1++Y1).length ((G1++Y1).flatMap Z7)):=ft;obtain⟨na,nc,Nr,-⟩:=Row.Z4 Nl.o;subst Nr;have wX:=Zh (D3.o.grown HG.o Nl.o);obtain⟨d20,d21,f20,f21⟩:=wX.o.facts;refine hK.out _ _ ?_ (fun A7=>?_)
     ·(try dsimp only)
      try trivial
     clear hK K;try simp only[Z_.pt]
     refine YA 8 (h:=?_);refine R3 9 (h:=fun K hK=>?_);go_simp;have wY:=Zh (wX.o.set 20 (.slice na (G1++Y1).length nc) (.slice na (G1++Y1).length nc) gu rfl);obtain⟨h20,h21,g20,g21⟩:=wY.o.facts;refine hK.out _ _ ?_ (fun A8=>?_)
     ·(try dsimp only)
      try trivial
     clear hK K;try simp only[Z_.pt]
     refine YA 10 (h:=?_);refine R3 11 (h:=fun K hK=>?_);go_simp;have HDL8:=Zh (wY.o.set 21 (.int .i64 (gu+yu)) (.slice na (G1++Y1).length nc) (gu+yu) rfl);refine hK.out _ _ ?_ (fun sf=>?_)
     ·(try dsimp only)
      try trivial
     exact Yx57
    ·have Mi:j=LV.length:=by omega
     have hT:IL.take j=IL:=by rw[Mi,jC.o];exact EM (by rw[Tx];exact Zw _)
     rw[hT]at rL;obtain⟨ta,tc,mj,-⟩:=Row.Z4 rL.o.own;subst mj;clear sy bH hT;generalize ZA peer IL R=G at *
     obtain⟨⟨G1,G2⟩,gu⟩:=G;dsimp only at HX rL;have hk:=rL.o.Y8;unfold BI at hk;have CC:=Zh (H' g (.pointer (some ⟨b,0,none⟩)) ep (Qm 0 0 0 0 false 0 0 0 0 none 0 0 false 0 none 0 0 none 0 0 0 0 false false 0 va LV.length vc ta G1.length tc gu) wr rL.o.RJ.Y8 h0 h9 rfl X_);have HTK2:Hid (Ye wr ((((Qm 0 0 0 0 false 0 0 0 0 none 0 0 false 0 none 0 0 none 0 0 0 0 false false 0 va LV.length vc ta G1.length tc gu):List Value).set 0 (.int .i64 2)).set 2 (.int .i64 (ep+1))) (Uq (ep+1) IL G1 gu)):=⟨_,_,_,_,_,rfl,Vy.nil _,⟨LV,jC.o,rL.o.its⟩,Row.Z4 rL.o.own⟩;have bz:=Zh rL.o.RJ.apart;have hzr:=rL.o.z;generalize RV:((((Qm 0 0 0 0 false 0 0 0 0 none 0 0 false 0 none 0 0 none 0 0 0 0 false false 0 va LV.length vc ta G1.length tc gu):List Value).set 0 (.int .i64 2)).set 2 (.int .i64 (ep+1)))=cs at *
     clear RV;go_wp2_with (first|(with_reducible refine Zl hk underlying100 ?_)|(go_at_call 79;refine CC.o.mono ?_;rintro e w5 ⟨rfl,hg5,p_⟩;have GH:=Zh p_;have Ip:=(p_.block (w.heap.size+1) (ZX hzr) Zo).trans hzr;have J1:Hid (Ye w5 cs (Uq (ep+1) IL G1 gu)):=HTK2.o.fr p_ (fun k hk=>bz.o k (WB hk));have HD5:Hid (X8 w5 g b G2 (ep+1)):=⟨hg5,rL.o.RJ.room.fr p_ (Zw _) (fun h=>uD (Eq.symm h)) (fun k c fr hk=>bz.o.ne Zi k c fr (WB hk))⟩;have hi:=PT J1.o;have hold:=PS J1.o;have OY:=J1.o.one;clear hg5 p_ CC)|(with_reducible refine ZT 100 (.tmp 4) (.tmp 85) rfl ?_;refine VY rfl 100 (.tmp 4) (.tmp 85) rfl rfl (w.heap.size+1) cs.toArray rfl rfl 100 Xf Ip hi hold OY ?_))
     refine VD (v:= .agg cs.toArray) ?_ rfl ?_
     ·exact kx
     rw[HX.o];refine⟨⟨cs,rfl,J1.o.setRow Ip _⟩,HD5.o.setRow Ip Zo Zo _,?_⟩;exact Lz (rL.o.fr.trans (GH.o.mono rL.o.fr.size (fun _ _ h=>WB h))) (J_ _) _
  ·exact Yx38
 ·exact Yx34
theorem AV(g b:Nat)(R:Room)(ep kd peer src ly:Int)(nm:ByteArray)(sa ba:Option Addr)(sl sc bl bc:Nat)(l:List UInt8)(w:World)(hD:X8 w g b R ep)(hI:Inv R)(hS:Wn R)(h0:0≤ep)(h9:ep<1000000000)(hv:X5 w (.slice ba bl bc) l) :
  Calls prog 76 (Qi (some ⟨g,0,none⟩) (Qa kd peer src ly nm sa sl sc ba bl bc)) w fun e w'=>(∃cs:List Value,e = .returned (.agg cs.toArray)∧Ye w' cs (YJ R ep peer l).1.1)∧X8 w' g b (YJ R ep peer l).1.2 (YJ R ep peer l).2∧Fr w (fun k=>k=b∨k=g) w w':=by
 by_cases h3:192≤at8 l 1∧at8 l 1≤223
 ·exact Ec g b R ep kd peer src ly nm sa ba sl sc bl bc l w hD hI hS h0 h9 hv h3
 ·exact Fj g b R ep kd peer src ly nm sa ba sl sc bl bc l w hD hI hS.short hv h3
open Go.Proofs
open Go.Proofs.Rm (Yw below_drewN)
def VE(a:EJ):List Value:=(Ju a)
def Z8(x:Zx):List Value:=(Qb x.peer x.source x.Mr x.fin)
structure TK where
 p:J4
 d:EK
 cv:Value
 ev:Value
 pv:Value
def Xm(x:TK):List Value:=VJ x.p x.d x.cv x.ev x.pv
theorem NW:Elem prog 37 35 4 32:=⟨underlying37,⟨.agg (Qb 0 0 0 0),by kernel_rfl,rfl⟩,by decide⟩
theorem MP:Elem prog 39 59 4 32:=⟨underlying39,⟨.agg (Qb 0 0 0 0),by kernel_rfl,rfl⟩,by decide⟩
theorem Ki:Elem prog 114 97 15 136:=⟨underlying114,⟨.agg TL,by kernel_rfl,rfl⟩,by decide⟩
theorem Wi{w:World}{base:Nat}{e:TypeId}{size:Nat}{v:Value}{n:Nat}{xs:List Value}(h:w.ownsRow base e size v n xs):∀k,v.ownBlock=some k→∃cur,w.heap[k]?=some (.cells cur e (0,0)):=by
 intro k hk;obtain⟨_,h⟩:=h;rcases h with⟨rfl,_⟩|⟨g,cap,cur,rfl,hg,hh,_⟩
 ·cases hk
 ·have hk:some g=some k:=hk;cases hk;exact⟨cur,hh⟩
theorem Vi{w w':World}{b1 b2:Nat}{e1 e2:TypeId}{s1 s2:Nat}{v1 v2:Value}{n1 n2:Nat}{x1 x2:List Value}(h1:w.ownsRow b1 e1 s1 v1 n1 x1)(h2:w.ownsRow b2 e2 s2 v2 n2 x2)(he:e1≠e2)(hg:w.grownBy w' v2.ownBlock):w'.ownsRow b1 e1 s1 v1 n1 x1:=
 XL h1 fun k hk=>by
  obtain⟨cur,hc⟩:=Wi h1 k hk;exact hg.block k (ZX hc) (fun e=>Y7 h2 he _ _ _ e.symm hc)
structure WH(B:Nat)(w:World)(k:Nat)(cs:Array Value)(av:Value)(A:List EJ)(mv:Value)(M:List TK)(lv:Value)(LS:List Zx):Prop where
 Y8:w.heap[k]?=some (.cells cs 116 (0,0))
 XX:w.ownsRow B 35 4 av A.length (A.flatMap VE)
 KG:w.ownsRow B 97 15 mv M.length (M.flatMap Xm)
 each:∀x∈M,Vy w x.p x.cv x.ev x.pv
 QM:w.ownsRow B 59 4 lv LS.length (LS.flatMap Z8)
section
variable {B:Nat} {w w':World} {k:Nat} {cs:Array Value} {av:Value} {A:List EJ} {mv:Value} {M:List TK} {lv:Value} {LS:List Zx}
theorem WH.below(h:WH B w k cs av A mv M lv LS)(hb:Below w w w'):WH B w' k cs av A mv M lv LS:=
 ⟨(hb.block _ (ZX h.Y8)).trans h.Y8,Yv h.XX hb,Yv h.KG hb,fun x hx=>(h.each x hx).below hb,Yv h.QM hb⟩
theorem Vy.wJ{p:J4}{cv ev pv:Value}{S:Nat→Prop}(h:Vy w p cv ev pv)(hf:Fr w S w w')(h1:∀k c fr,S k→w.heap[k]?≠some (.cells c 66 fr))(h2:∀k c fr,S k→w.heap[k]?≠some (.cells c 5 fr)):Vy w' p cv ev pv:=
 ⟨Row.fr h.c hf (Zw _) h1,Row.fr h.e hf (Zw _) h2,Row.fr h.p hf (Zw _) h2⟩
theorem WH.frA(h:WH B w k cs av A mv M lv LS){S:Nat→Prop}(hf:Fr w S w w')(hS:∀j,S j→∃c t f,w.heap[j]?=some (.cells c t f)∧t≠116∧t≠35∧t≠97∧t≠59∧t≠66∧t≠5):WH B w' k cs av A mv M lv LS:=by
 have hn:∀ {j c e f},w.heap[j]?=some (.cells c e f)→(e=116∨e=35∨e=97∨e=59∨e=66∨e=5)→¬S j:=fun{j c e f} hj he hs=>by
  obtain⟨c',t,f',h1,q1,q2,q3,q4,q5,q6⟩:=hS j hs;rw[hj]at h1;injection h1 with h1
  injection h1 with _ h1
  subst h1;rcases he with r|r|r|r|r|r
  ·exact q1 r
  ·exact q2 r
  ·exact q3 r
  ·exact q4 r
  ·exact q5 r
  ·exact q6 r
 refine⟨(hf.block _ (ZX h.Y8) (hn h.Y8 Zi)).trans h.Y8,XL h.XX fun j hj=>?_,XL h.KG fun j hj=>?_,fun x hx=>(h.each x hx).wJ hf (fun j c f hs hj=>hn hj Zi hs) (fun j c f hs hj=>hn hj Zi hs),XL h.QM fun j hj=>?_⟩
 ·obtain⟨cur,hc⟩:=Wi h.XX j hj;exact hf.block _ (ZX hc) (hn hc Zi)
 ·obtain⟨cur,hc⟩:=Wi h.KG j hj;exact hf.block _ (ZX hc) (hn hc Zi)
 ·obtain⟨cur,hc⟩:=Wi h.QM j hj;exact hf.block _ (ZX hc) (hn hc Zi)
theorem WH.Gk(h:WH B w k cs av A mv M lv LS)(o:Nat)(u:Value):WH B (w.setCell ⟨k,o,none⟩ u) k (cs.setIfInBounds o u) av A mv M lv LS:=by
 have hf:Fr w (· = k) w (w.setCell ⟨k,o,none⟩ u):=(Fr.refl _ _ _).setAt _ _
 have WN:∀e,116≠e→∀j c fr,j=k→w.heap[j]?≠some (.cells c e fr):=by
  intro e he j c fr hj hc;rw[hj,h.Y8]at hc;injection hc with hc
  injection hc with _ hc
  exact he hc
 have hb:∀ {v e s n xs},w.ownsRow B e s v n xs→116≠e→∀j,v.ownBlock=some j→(w.setCell ⟨k,o,none⟩ u).heap[j]?=w.heap[j]?:=fun{v e s n xs} ho he j hj=>by
  obtain⟨cur,hc⟩:=Wi ho j hj;exact Mg w ⟨k,o,none⟩ _ j (fun e2=>WN e he j _ _ e2 hc)
 exact⟨VH h.Y8 o u,XL h.XX (hb h.XX Zd),XL h.KG (hb h.KG Zd),fun x hx=>(h.each x hx).wJ hf (WN _ Zd) (WN _ Zd),XL h.QM (hb h.QM Zd)⟩
theorem WH.ym(h:WH B w k cs av A mv M lv LS)(hg:w.grownBy w' lv.ownBlock){Bl:Value}{tP:List Zx}(ho:w'.ownsRow B 59 4 Bl tP.length (tP.flatMap Z8)):WH B w' k cs av A mv M Bl tP:=
 ⟨(hg.block _ (ZX h.Y8) (fun e=>Y7 h.QM Zd _ _ _ e.symm h.Y8)).trans h.Y8,Vi h.XX h.QM Zd hg,Vi h.KG h.QM Zd hg,fun x hx=>(h.each x hx).wJ (XS hg) (Y7 h.QM Zd) (Y7 h.QM Zd),ho⟩
theorem WH.Co(h:WH B w k cs av A mv M lv LS)(hg:w.grownBy w' av.ownBlock){av':Value}{A':List EJ}(ho:w'.ownsRow B 35 4 av' A'.length (A'.flatMap VE)):WH B w' k cs av' A' mv M lv LS:=
 ⟨(hg.block _ (ZX h.Y8) (fun e=>Y7 h.XX Zd _ _ _ e.symm h.Y8)).trans h.Y8,ho,Vi h.KG h.XX Zd hg,fun x hx=>(h.each x hx).wJ (XS hg) (Y7 h.XX Zd) (Y7 h.XX Zd),Vi h.QM h.XX Zd hg⟩
theorem WH.cQ(h:WH B w k cs av A mv M lv LS)(hg:w.grownBy w' mv.ownBlock){mv':Value}{M':List TK}(ho:w'.ownsRow B 97 15 mv' M'.length (M'.flatMap Xm))(he:∀x∈M',Vy w' x.p x.cv x.ev x.pv):WH B w' k cs av A mv' M' lv LS:=
 ⟨(hg.block _ (ZX h.Y8) (fun e=>Y7 h.KG Zd _ _ _ e.symm h.Y8)).trans h.Y8,Vi h.XX h.KG Zd hg,ho,he,Vi h.QM h.KG Zd hg⟩
theorem FV(at':Int):∀(Q:List Zx) (m:Nat) (_:m<Q.length),(Q.flatMap Z8).set (m*4+3) (.int .i64 at')=(Q.set m {Q.getD m Wp with fin:=at'}).flatMap Z8
 | [],m,hm=>by simp at hm
 | x :: Q,0,_=>by simp[Z8]
 | x :: Q,m+1,hm=>by
  have ih:=FV at' Q m (by simpa using hm);rw[List.flatMap_cons,List.set_append_right _ _ (by show 4≤_;omega),List.set_cons_succ,List.flatMap_cons];have:(m+1)*4+3-(Z8 x).length=m*4+3:=by show _-4=_;omega
  rw[this,ih];rfl
theorem WH.setL(h:WH B w k cs av A mv M lv LS){g c m:Nat}(hv:lv = .slice (some ⟨g,0,none⟩) LS.length c)(hm:m<LS.length)(at':Int):WH B (w.setCell ⟨g,m*4+3,none⟩ (.int .i64 at')) k cs av A mv M lv (LS.set m {LS.getD m Wp with fin:=at'}):=by
 have hl:=h.QM;obtain⟨cur,hc⟩:=Wi hl g (by rw[hv];rfl);have hf:Fr w (· = g) w (w.setCell ⟨g,m*4+3,none⟩ (.int .i64 at')):=(Fr.refl _ _ _).setAt _ _
 have WN:∀e,59≠e→∀j c fr,j=g→w.heap[j]?≠some (.cells c e fr):=by
  intro e he j c fr hj hx;rw[hj,hc]at hx;injection hx with hx
  injection hx with _ hx
  exact he hx
 have hb:∀ {v e s n xs},w.ownsRow B e s v n xs→59≠e→∀j,v.ownBlock=some j→(w.setCell ⟨g,m*4+3,none⟩ (.int .i64 at')).heap[j]?=w.heap[j]?:=fun{v e s n xs} ho he j hj=>by
  obtain⟨cu,NJ⟩:=Wi ho j hj;exact Mg w ⟨g,m*4+3,none⟩ _ j (fun e2=>WN e he j _ _ e2 NJ)
 refine⟨(Mg w ⟨g,m*4+3,none⟩ _ k (fun e2=>WN _ Zd k _ _ e2 h.Y8)).trans h.Y8,XL h.XX (hb h.XX Zd),XL h.KG (hb h.KG Zd),fun x hx=>(h.each x hx).wJ hf (WN _ Zd) (WN _ Zd),?_⟩;rw[hv]at hl ⊢;have h2:=O8 hl Zo (m*4+3) (.int .i64 at');rw[FV at' LS m hm]at h2;rw[List.length_set];exact h2
theorem WH.cells{oa:Option Addr}{n oc:Nat}{c1 c2 c3:Value}(h:WH B w k (Jf oa n oc c1 c2 c3) av A mv M lv LS):w.cell? ⟨k,0,none⟩=some (.slice oa n oc)∧w.cell? ⟨k,1,none⟩=some c1∧w.cell? ⟨k,2,none⟩=some c2∧w.cell? ⟨k,3,none⟩=some c3∧(∀j,w.frozen? ⟨k,j,none⟩=false):=
 ⟨cell_of h.Y8 0,cell_of h.Y8 1,cell_of h.Y8 2,cell_of h.Y8 3,ZP h.Y8⟩
end
theorem sK{w:World}{g n c:Nat}{l:List Zx}{B:Nat}(h:w.ownsRow B 59 4 (.slice (some ⟨g,0,none⟩) n c) n (l.flatMap Z8)){m:Nat}(hm:m<l.length):w.cell? ⟨g,m*4,none⟩=some (.int .i64 (l.getD m Wp).peer)∧w.cell? ⟨g,m*4+1,none⟩=some (.int .i64 (l.getD m Wp).source)∧w.cell? ⟨g,m*4+3,none⟩=some (.int .i64 (l.getD m Wp).fin):=by
 have wK:=XN Z8 4 (fun _=>rfl) l;obtain⟨g',off,cap,h1,h2,h3,h4,h5⟩:=Row.open (Row.Z4 h) (by rw[wK];omega);injection h1 with e1 _ _
 cases e1;have hx:l[m]?=some (l.getD m Wp):=by rw[Q_,Ve hm];rfl
 have hj:∀j,j<4→w.cell? ⟨g,m*4+j,none⟩=(Z8 (l.getD m Wp))[j]?:=fun j hj=>by
  have h6:=h5 (m*4+j) (by rw[wK];omega);rw[PW]at h6;rw[h6];exact Mu Z8 4 (fun _=>rfl) l m j _ hx hj
 exact⟨hj 0 Zo,hj 1 Zo,hj 3 Zo⟩
theorem FU(x:Zx):∀u∈Z8 x,u.oneCell'=true:=by
 intro u hu;simp only[Z8,J9,List.mem_nil_iff,or_false]at hu;rcases hu with rfl|rfl|rfl|rfl <;> rfl
theorem oF(B k:Nat)(oa:Option Addr)(n oc:Nat)(av mv:Value)(A:List EJ)(M:List TK)(lv:Value)(LS:List Zx)(at':Int)(t:YF)(w:World)
  (h:WH B w k (Jf oa n oc av mv lv) av A mv M lv LS) (hB:B≤w.heap.size) (hl:LS.length≤100000000) :
  Calls prog 85 (Jl (some ⟨k,0,none⟩) at' (Jy t)) w fun e w'=>e = .returned (.tuple #[]) ∧
   ∃Bl,WH B w' k (Jf oa n oc av mv Bl) av A mv M Bl (Yr n at' LS t)∧Fr w (fun j=>j=k∨lv.ownBlock=some j) w w':=by
 have HX:Hid (Yr n at' LS t=if t.kind=1 then LS++[⟨t.peer,t.source,at',n⟩]else if t.kind=2 then Yc t.peer t.source at' LS LS.length else LS):=rfl;have VN:Hid (Below w w (w.alloc (.cells (Jy t) 158))):=Z' w _;have hz:=Z9 w (.cells (Jy t) 158);have H1:=Zh (h.below VN.o);obtain⟨la,lc,uI,-⟩:=Row.Z4 h.QM;have HL:=Zh h.QM;subst uI;clear h;by_cases k1:t.kind=1
 ·have VC:Hid (Yr n at' LS t=LS++[⟨t.peer,t.source,at',n⟩]):=by show _=_;rw[HX.o,ZU k1]
  clear HX;generalize Yr n at' LS t=X at *
  obtain⟨tk,tp,ts,ty,tx⟩:=t;dsimp only at k1 VN hz H1 VC ⊢;subst k1;go_enter func85,ntmps85;go_upto_region 3 with fail
  have P8:=hz;have hls:=ZX hz;generalize(w.alloc (.cells (Qh 1 tp ts ty tx) 158))=w1 at *
  have H1d:=Zh (H1.o.below (YI _ _).drew);have aR:=((YI w1 w1).drew.block _ hls).trans hz
  have ZB:Hid (∀w':World,w'.heap[k]?=some (.cells #[.slice oa n oc,av,mv,.slice la LS.length lc] 116 (0,0))→w'.heap[w.heap.size]?=some (.cells (Qh 1 tp ts ty tx) 158 (0,0))→w'.cell? ⟨k,0,none⟩=some (.slice oa n oc)∧w'.cell? ⟨k,3,none⟩=some (.slice la LS.length lc)∧w'.cell? ⟨w,1,none⟩=some (.int .i64 tp)∧w'.cell? ⟨w,2,none⟩=some (.int .i64 ts)):=fun w' h1 h2=>
   ⟨Zc h1 0 rfl,Zc h1 3 rfl,Zc h2 1 rfl,Zc h2 2 rfl⟩
  refine R5 ?_;refine Z_.Zj (d:=20) (S:=(fun w'=>w'.cell? ⟨k,0,none⟩=some (.slice oa n oc)∧w'.cell? ⟨k,3,none⟩=some (.slice la LS.length lc)∧w'.cell? ⟨w,1,none⟩=some (.int .i64 tp)∧w'.cell? ⟨w,2,none⟩=some (.int .i64 ts))) X_ ?_ (fun _=>?_)
  ·exact ZB.o _ H1d.o.Y8 aR
  refine YK 0 (h:=YK 1 (h:=YK 2 (h:=YK 3 (h:=YK 4 (h:=YK 5 (h:=YK 6 (h:=YK 7 (h:=YK 8 (h:=YK 9 (h:=YK 10 (h:=YK 11 (h:=YK 12 (h:=YK 13 (h:=YK 14 (h:=YK 15 (h:=?_))))))))))))))));refine YR 16 (h:=fun K hK=>?_);refine Xe Zr MP (.tmp 27) Zr (Qb tp ts at' (n:Int)) Zr Zr Zd ?_;have H2:=Zh (H1d.o.below (Z' w1.drew (.cells (Qb tp ts at' (n:Int)) 59)));have TY:=((Z' w1.drew (.cells (Qb tp ts at' (n:Int)) 59)).block _ (ZX aR)).trans aR;refine Z_.Y9 hK _ _ ?_ (fun _=>?_)
  ·exact ko
  clear hK K;try simp only[Z_.pt]
  refine YR 17 (h:=fun K hK=>?_);refine Ze Zr (.tmp 16) (.tmp 28) 39 Zr B MP (.slice la LS.length lc) LS.length (LS.flatMap Z8) Zr H2.o.QM (.slice (some ⟨w1.drew.heap.size,0,none⟩) 1 1) 1 ([(⟨tp,ts,at',(n:Int)⟩:Zx)].flatMap Z8) Zr (Yw _ _ 1 _ ([(⟨tp,ts,at',(n:Int)⟩:Zx)].flatMap Z8) Zd rfl) rfl (U6 fun x _=>FU x) Zo Zo ?_ ?_
  ·show B≤(w1.drew.heap.push _).size;rw[Ou];have:=VN.o.size;show B≤w1.heap.size+1;omega
  intro v' w6 HO HG;have Nl:Hid (w6.ownsRow B 59 4 v' (LS++[(⟨tp,ts,at',(n:Int)⟩:Zx)]).length ((LS++[(⟨tp,ts,at',(n:Int)⟩:Zx)]).flatMap Z8)):=ft;obtain⟨na,nc,Nr,-⟩:=Row.Z4 Nl.o;subst Nr;have H3:=Zh (H2.o.ym HG.o Nl.o);obtain⟨q0,q1,q2,q3,q4⟩:=H3.o.cells;have q43:=q4 3;have mB:=(HG.o.block _ (ZX TY) (fun e=>Y7 H2.o.QM Zd _ _ _ e.symm TY)).trans TY;refine Z_.Y9 hK _ _ ?_ (fun _=>?_)
  ·exact ko
  clear hK K;try simp only[Z_.pt]
  refine YR 18 (h:=fun K hK=>?_);go_simp;refine Z_.Y9 hK _ _ ?_ (fun _=>?_)
  ·exact ko
  clear hK K;try simp only[Z_.pt]
  refine YK 19 (h:=?_);refine YR 20 (h:=fun K hK=>?_);go_simp;refine Z_.Yf hK _ _ X_ ?_;clear hK K;try simp only[Z_.pt]
  refine Z_.Yx X_ ?_ _;refine QZ ?_;go_wp2_with fail
  first|refine bodyPost_end (results_none Zr _ _ _) rfl ?_|refine VD (results_none Zr _ _ _) rfl ?_
  have ot:(LS++[(⟨tp,ts,at',(n:Int)⟩:Zx)]).length=LS.length+1:=by simp
  have h3:=H3.o.Gk 3 (.slice na (LS.length+1) nc);rw[ot]at h3;refine⟨rfl,.slice na (LS.length+1) nc,by rw[VC.o];exact h3,?_⟩;have f1:Fr w (fun j=>j=k∨(Value.slice la LS.length lc).ownBlock=some j) w w1.drew:=Fr.Z6 _ VN.o.drew;have f2:=(f1.alloc VN.o.size (.cells (Qb tp ts at' (n:Int)) 59));have f3:Fr w (fun j=>j=k∨(Value.slice la LS.length lc).ownBlock=some j) w w6:=f2.trans ((XS HG.o).mono f2.size (fun _ _ h=>WB h));exact f3.setCell (p:=⟨k,3,none⟩) (WB (WO rfl)) _
 by_cases k2:t.kind=2
 rotate_left
 ·have VC:Hid (Yr n at' LS t=LS):=by show _=_;rw[HX.o,Z3 k1,Z3 k2]
  clear HX;generalize Yr n at' LS t=X at *
  have e1:(t.kind==1)=false:=by rw[WM];exact k1
  have e2:(t.kind==2)=false:=by rw[WM];exact k2
  go_enter func85,ntmps85;go_wp2_with fail
  first|refine bodyPost_end (results_none Zr _ _ _) rfl ?_|refine VD (results_none Zr _ _ _) rfl ?_
  exact⟨rfl,_,by rw[VC.o];exact H1.o,Fr.Z6 _ VN.o⟩
 have VC:Hid (Yr n at' LS t=Yc t.peer t.source at' LS LS.length):=by show _=_;rw[HX.o,Z3 k1,ZU k2]
 clear HX;generalize Yr n at' LS t=X at *
 obtain⟨tk,tp,ts,ty,tx⟩:=t;dsimp only at k1 k2 VN hz H1 VC ⊢;subst k2;clear k1;have TN:=H1.o.cells;obtain⟨q0,q1,q2,q3,q4⟩:=TN;have hw5:IntKind.i64.wrap ((LS.length:Int)-1)=(LS.length:Int)-1:=Te _ Zo;go_enter func85,ntmps85;go_wp2_with fail
 go_loopw [6] (fun s6 w'=>∃m:Nat,m≤LS.length∧s6 = .int .i64 ((m:Int)-1)∧Hid (Yc tp ts at' LS LS.length=Yc tp ts at' LS m)∧Below w w w'∧Below (w.alloc (.cells (Qh 2 tp ts ty tx) 158)).heap.size (w.alloc (.cells (Qh 2 tp ts ty tx) 158)) w') (fun s6 _=>(intOf s6+1).toNat)
 case atStart=>exact⟨LS.length,Zw _,rfl,rfl,VN.o,YI _ _⟩
 case round=>
  obtain⟨m,hm,rfl,HE,Xz,sj⟩:=hrel;have Sv:=Zh Xz;have HBEL2:=Zh sj;have HR:=Zh (H1.o.below sj);have hzr:=(sj.block _ (ZX hz)).trans hz;have t1:wr.cell? ⟨w,1,none⟩=some (.int .i64 tp):=Zc hzr 1 rfl;have t2:wr.cell? ⟨w,2,none⟩=some (.int .i64 ts):=Zc hzr 2 rfl;obtain⟨r0,r1,r2,r3,r4⟩:=HR.o.cells;have rN:=Zh (Yv HL.o (Sv.o));clear Xz sj q0 q1 q2 q3 q4;cases m with
  | zero=>
   have Mo:Hid (X=LS):=by show _=_;rw[VC.o,HE.o];rfl
   clear HE VC;go_wp2;first|refine bodyPost_end (results_none Zr _ _ _) rfl ?_|refine VD (results_none Zr _ _ _) rfl ?_
   exact⟨rfl,_,by rw[Mo.o];exact HR.o,Fr.Z6 _ Sv.o⟩
  | succ q=>
   have hq1:((q+1:Nat):Int)-1=(q:Int):=by omega
   rw[hq1];have hqI:(q:Int)<(LS.length:Int):=by omega
   obtain⟨g,c9,cur,e9,-,Ij⟩:=LQ rN.o Zo;cases e9;obtain⟨y0,y1,y3⟩:=sK rN.o (m:=q) Zo;have fz:wr.frozen? ⟨g,q*4+3,none⟩=false:=ZP Ij _;have HQ:=Zh (fun(w':World) (hb:Below wr wr w')=>(HR.o.below hb).setL rfl (m:=q) Zo at');have D4:Hid (Yc tp ts at' LS (q+1)=if(LS.getD q Wp).peer=tp∧(LS.getD q Wp).source=ts then LS.set q {LS.getD q Wp with fin:=at'}else Yc tp ts at' LS q):=rfl;have hqw:IntKind.i64.wrap ((q:Int)-1)=(q:Int)-1:=Te _ Zo;generalize(LS.getD q Wp).peer=lp at *
   generalize(LS.getD q Wp).source=ls at *
   by_cases hp:lp=tp
   ·by_cases hs:ls=ts
    ·have Mo:Hid (X=LS.set q {LS.getD q Wp with fin:=at'}):=by show _=_;rw[VC.o,HE.o,D4.o,ZU ⟨hp,hs⟩]
     subst hp;subst hs;clear HE D4 VC;go_upto_region 9 with fail
     go_quiet (fail)
     go_wp2;first|refine bodyPost_end (results_none Zr _ _ _) rfl ?_|refine VD (results_none Zr _ _ _) rfl ?_
     exact⟨rfl,⟨_,by rw[Mo.o];exact HQ.o _ (below_drewN (YI _ _) _)⟩,(Fr.Z6 _ (below_drewN Sv.o _)).setCell (p:=⟨g,q*4+3,none⟩) (WB (WB rfl)) _⟩
    ·have HE3:Hid (Yc tp ts at' LS LS.length=Yc tp ts at' LS q):=by show _=_;rw[HE.o,D4.o,Z3 (fun h=>hs h.2)]
     have e1:(ls==ts)=false:=by rw[WM];exact hs
     subst hp;exact cz
   ·have HE3:Hid (Yc tp ts at' LS LS.length=Yc tp ts at' LS q):=by show _=_;rw[HE.o,D4.o,Z3 (fun h=>hp h.1)]
    have e1:(lp==tp)=false:=by rw[WM];exact hp
    exact cz
end Go.Proofs.By
namespace Go.Proofs.By
def WS(b:List UInt8):Nat:=if at8 b 0/16%2=1 then 12+4*(at8 b 0%16)+4+4*get b (((12+4*(at8 b 0%16):Nat):Int)+2) 2 else 12+4*(at8 b 0%16)
def Ua(b:List UInt8):Nat:=if at8 b 0/16%2=1 then 12+4*(at8 b 0%16)+4 else 12+4*(at8 b 0%16)
def S9(b:List UInt8):Nat:=if at8 b 0/32%2=1 then at8 b (b.length-1)else 0
def Bx(b:List UInt8):J4×Int:=
  if 512<b.length then(WR,5)
  else if b.length<12 then(WR,2)
  else if at8 b 0<128∨191<at8 b 0 then(WR,1)
  else if 192≤at8 b 1∧at8 b 1≤223 then(WR,4)
  else if b.length<12+4*(at8 b 0%16)then(WR,2)
  else if at8 b 0/16%2=1∧b.length<12+4*(at8 b 0%16)+4 then(WR,2)
  else if b.length<WS b then(WR,2)
  else if at8 b 0/32%2=1∧(WS b=b.length∨at8 b (b.length-1)=0∨b.length-WS b<at8 b (b.length-1))then(WR,1)
  else if at8 b 0/32%2=1∧¬(((b.drop (b.length-at8 b (b.length-1))).take (at8 b (b.length-1)-1)).all (fun x=>decide (x=0))=true)then(WR,1)
  else(TD b (Ua b,WS b,b.length-S9 b),0)
theorem kI(b:List UInt8)(k i:Nat):at8 (b.drop k) i=at8 b (k+i):=by
  unfold at8;rw[Q_,Q_,List.getElem?_drop]
theorem vG(b:List UInt8):YM b=Bx b:=by
  unfold YM Bx
  have e0:looks b=if 512<b.length then((0,0,0),5)
    else if b.length<12 then((0,0,0),2)
    else if at8 b 0/64≠2 then((0,0,0),1)
    else if 192≤at8 b 1∧at8 b 1≤223 then((0,0,0),4)
    else if(Vp b (12+4*(at8 b 0%16))).2=false then((0,0,0),2)
    else if(RU b (b.drop (Vp b (12+4*(at8 b 0%16))).1.2)).2=false then((0,0,0),1)else(((Vp b (12+4*(at8 b 0%16))).1.1,(Vp b (12+4*(at8 b 0%16))).1.2,b.length-(RU b (b.drop (Vp b (12+4*(at8 b 0%16))).1.2)).1),0):=rfl
  rw[e0];by_cases h1:512<b.length
  · simp only[ZU h1];rfl
  simp only[Z3 h1];by_cases h2:b.length<12
  · simp only[ZU h2];rfl
  simp only[Z3 h2];have hb:=(show at8 b 0<256 by unfold at8;exact(b.getD 0 0).toNat_lt);by_cases h3:at8 b 0<128∨191<at8 b 0
  · simp only[ZU h3,ZU (show at8 b 0/64≠2 by omega)];rfl
  simp only[Z3 h3,Z3 (show¬at8 b 0/64≠2 by omega)];by_cases h4:192≤at8 b 1∧at8 b 1≤223
  · simp only[ZU h4];rfl
  simp only[Z3 h4];obtain⟨p,hp⟩:∃p,p=12+4*(at8 b 0%16):=⟨_,rfl⟩
  have hx:(Vp b p).1=(Ua b,WS b)∧((Vp b p).2=decide (¬(b.length<p)∧¬(at8 b 0/16%2=1∧b.length<p+4)∧¬b.length<WS b)):=by
    unfold Vp Ua WS;rw[←hp];by_cases h5:at8 b 0/16%2=1
    · rw[Z3 (show¬at8 b 0/16%2=0 by omega)];simp only[ZU h5];refine⟨by first|rfl|simp,?_⟩;rw[Bool.eq_iff_iff,UW,within_iff,Sz,Sz];omega
    · rw[ZU (show at8 b 0/16%2=0 by omega)];simp only[Z3 h5];refine⟨by first|rfl|simp,?_⟩;rw[Bool.eq_iff_iff,Sz,Sz];omega
  rw[←hp,hx.1,hx.2];have hpe:p≤WS b:=by unfold WS;rw[←hp];split <;> omega
  by_cases h5:¬(b.length<p)∧¬(at8 b 0/16%2=1∧b.length<p+4)∧¬b.length<WS b
  · rw[Ww h5];simp only[Bool.true_eq_false,if_false,Z3 h5.1,Z3 h5.2.1,Z3 h5.2.2];have hq:(b.drop (WS b)).length=b.length-WS b:=Ra;by_cases h6:at8 b 0/32%2=1
    · simp only[h6,true_and];unfold RU S9;rw[Z3 (show¬at8 b 0/32%2=0 by omega),hq,ZU h6];by_cases h7:b.length-WS b=0
      · simp only[ZU h7,ZU (show WS b=b.length∨at8 b (b.length-1)=0∨b.length-WS b<at8 b (b.length-1)from WO Zo)];rfl
      simp only[Z3 h7,kI,List.drop_drop];rw[show WS b+(b.length-WS b-1)=b.length-1 by omega];by_cases h8:at8 b (b.length-1)=0∨b.length-WS b<at8 b (b.length-1)
      · simp only[ZU h8,ZU (show WS b=b.length∨at8 b (b.length-1)=0∨b.length-WS b<at8 b (b.length-1)from WB h8)];rfl
      rw[Z3 h8,Z3 (show¬(WS b=b.length∨at8 b (b.length-1)=0∨b.length-WS b<at8 b (b.length-1)) by omega),show WS b+(b.length-WS b-at8 b (b.length-1))=b.length-at8 b (b.length-1) by omega];by_cases h9:((b.drop (b.length-at8 b (b.length-1))).take (at8 b (b.length-1)-1)).all (fun x=>decide (x=0))=true
      · simp[h9]
      · simp[h9]
    · have h6':at8 b 0/32%2=0:=by omega
      unfold RU S9;simp[h6',h6]
  · rw[Wz h5];simp only[if_true];by_cases a1:b.length<p
    · rw[ZU a1];rfl
    rw[Z3 a1];by_cases a2:at8 b 0/16%2=1∧b.length<p+4
    · rw[ZU a2];rfl
    rw[Z3 a2];by_cases a3:b.length<WS b
    · rw[ZU a3];rfl
    · exact absurd ⟨a1,a2,a3⟩ h5
open Go.RowKit Go.Proofs.Heap
open Go.Proofs.Rm (VI)
theorem Re(v:Value)(b:List UInt8)(p q:Int)(w:World)(hv:X5 w v b):Calls prog 118 #[v,.int .i64 p,.int .i64 q] w fun e w'=>e = .returned (.int .u64 (get b p q:Nat))∧w=w':=by
 have C:=Zh (mZ v b p q w hv);clear hv;go_enter func118,ntmps118;go_wp2_with (go_at_call 145;refine C.o.mono ?_;rintro e w' ⟨rfl,rfl⟩)
 go_ret;exact⟨rfl,rfl⟩
theorem ng(p s:Int)(w:World):Calls prog 61 (Q4 p s) w fun e w'=>e = .returned (.int .u32 (W8 p s))∧w=w':=by
 have HF:Hid (W8 p s=if VI p 9&&VI s 9 then 3221225472+(256*p+s)else 0):=rfl;generalize W8 p s=x at *
 by_cases h1:p<1
 ·have HX:Hid (x=0):=by show _=_;rw[HF.o,Z3 (by intro h;have:=Xl.1 ((UW _ _).mp h).1;omega)]
  have d1:decide (p<1)=true:=Ww h1;exact fJ
 have d1:decide (p<1)=false:=Wz h1;by_cases h2:8<p
 ·have HX:Hid (x=0):=by show _=_;rw[HF.o,Z3 (by intro h;have:=Xl.1 ((UW _ _).mp h).1;omega)]
  have d2:decide (8<p)=true:=Ww h2;exact fJ
 have d2:decide (8<p)=false:=Wz h2;by_cases h3:s<1
 ·have HX:Hid (x=0):=by show _=_;rw[HF.o,Z3 (by intro h;have:=Xl.1 ((UW _ _).mp h).2;omega)]
  have d3:decide (s<1)=true:=Ww h3;exact fJ
 have d3:decide (s<1)=false:=Wz h3;by_cases h4:8<s
 ·have HX:Hid (x=0):=by show _=_;rw[HF.o,Z3 (by intro h;have:=Xl.1 ((UW _ _).mp h).2;omega)]
  have d4:decide (8<s)=true:=Ww h4;exact fJ
 have d4:decide (8<s)=false:=Wz h4;have HX:Hid (x=3221225472+(256*p+s)):=by show _=_;rw[HF.o,ZU (by rw[Xl.2 ⟨Zo,Zo⟩,Xl.2 ⟨Zo,Zo⟩];rfl)]
 have w1:IntKind.u32.wrap p=p:=by rw[Np];omega
 have w2:IntKind.u32.wrap s=s:=by rw[Np];omega
 have w3:IntKind.u32.wrap (p*256)=p*256:=by rw[Np];omega
 have w4:IntKind.u32.wrap (3221225472+p*256)=3221225472+p*256:=by rw[Np];omega
 have w5:IntKind.u32.wrap (3221225472+p*256+s)=3221225472+p*256+s:=by rw[Np];omega
 clear HF;go_enter func61,ntmps61;go_wp2;go_ret;exact⟨KT (by rw[HX.o];omega),rfl⟩
theorem v_{x:Int}(h0:0≤x)(h1:x<4294967296)(h:∀p s:Int,1≤p→p<9→1≤s→s<9→W8 p s≠x):U' x=(0,0,false):=by
 have h2:U' x=(if VI ((x+1073741824)%4294967296/256) 9&&VI ((x+1073741824)%4294967296%256) 9 then((x+1073741824)%4294967296/256,(x+1073741824)%4294967296%256,true)else(0,0,false)):=rfl;by_cases hc:(VI ((x+1073741824)%4294967296/256) 9&&VI ((x+1073741824)%4294967296%256) 9)=true
 ·rw[ZU hc]at h2;have h3:=(DU h0 h1).2 h2;have h4:=Xl.1 h3.1;have h5:=Xl.1 h3.2.1;exact absurd h3.2.2 (h _ _ h4.1 h4.2 h5.1 h5.2)
 ·rw[Z3 hc]at h2;exact h2
theorem vp(x:Int)(w:World)(h0:0≤x)(h1:x<4294967296) :
  Calls prog 103 #[.int .u32 x] w fun e w'=>e = .returned (.tuple (Q6 (U' x).1 (U' x).2.1 (U' x).2.2))∧w=w':=by
 have CO:=Zh (fun(p s:Int)=>ng p s w);have HY:Hid (∀p s:Int,1≤p→p<9→1≤s→s<9→W8 p s=x→U' x=(p,s,true)):=fun p s a1 a2 a3 a4 h=>(DU h0 h1).1 ⟨Xl.2 ⟨a1,a2⟩,Xl.2 ⟨a3,a4⟩,h⟩
 have HN:Hid ((∀p s:Int,1≤p→p<9→1≤s→s<9→W8 p s≠x)→U' x=(0,0,false)):=fun h=>v_ h0 h1 h
 generalize U' x=X at *
 clear h0 h1;go_enter func103,ntmps103;go_wp2_with fail
 go_loopw [5] (fun s5 w'=>∃p:Nat,1≤p∧p≤9∧s5 = .int .i64 (p:Int)∧w'=w∧Hid (∀p' s':Int,1≤p'→p'<p→1≤s'→s'<9→W8 p' s'≠x)) (fun s5 _=>9-(intOf s5).toNat)
 case atStart=>exact⟨1,Zo,Zo,rfl,rfl,fun p' s' a b=>by omega⟩
 case round=>
  obtain⟨p,Da,Lh,rfl,rfl,HP⟩:=hrel;by_cases hp:p<9
  ·have dp:decide ((p:Int)≤8)=true:=Ww Zo;go_wp2_with fail
   go_loopw [6] (fun s6 w'=>∃s:Nat,1≤s∧s≤9∧s6 = .int .i64 (s:Int)∧w'=wr∧Hid (∀s':Int,1≤s'→s'<s→W8 (p:Int) s'≠x)) (fun s6 _=>9-(intOf s6).toNat)
   case atStart=>exact⟨1,Zo,Zo,rfl,rfl,fun s' a b=>by omega⟩
   case round=>
    obtain⟨s,dP,hs9,rfl,rfl,HS⟩:=hrel;by_cases hs:s<9
    ·have ds:decide ((s:Int)≤8)=true:=Ww Zo;have C1:=Zh (CO.o p s);by_cases hx:W8 (p:Int) (s:Int)=x
     ·have HX:Hid (X=((p:Int),(s:Int),true)):=HY.o p s Zo Zo Zo Zo hx;rw[hx]at C1;clear HY HN HP HS hx CO;go_wp2_with (go_at_call 61;refine C1.o.mono ?_;rintro e w' ⟨rfl,rfl⟩)
      go_ret3
      exact⟨by rw[HX.o];rfl,rfl⟩
     ·have e1:(W8 (p:Int) (s:Int)==x)=false:=by rw[WM];exact hx
      have PV:Hid (∀s':Int,1≤s'→s'<((s+1:Nat):Int)→W8 (p:Int) s'≠x):=fun s' a b=>by
       by_cases h:s'=(s:Int)
       ·rw[h];exact hx
       ·exact HS.o s' a Zo
      clear hx;generalize W8 (p:Int) (s:Int)=z at *
      go_wp2_with (go_at_call 61;refine C1.o.mono ?_;rintro e w' ⟨rfl,rfl⟩)
      go_roundw
      case rel=>exact⟨s+1,Zo,Zo,Zn,by first|rfl|trivial,PV.o⟩
      case measure=>simp[intOf];omega
    ·have dO:s=9:=by omega
     subst dO
     have jJ:Hid (∀p' s':Int,1≤p'→p'<((p+1:Nat):Int)→1≤s'→s'<9→W8 p' s'≠x):=fun p' s' a b c d=>by
      by_cases h:p'=(p:Int)
      ·rw[h];exact HS.o s' c d
      ·exact HP.o p' s' a Zo c d
     clear hs;go_wp2;go_roundw
     case rel=>exact⟨p+1,Zo,Zo,Zn,by first|rfl|trivial,jJ.o⟩
     case measure=>simp[intOf];omega
  ·have qj:p=9:=by omega
   subst qj;have HX:Hid (X=(0,0,false)):=HN.o (fun p s a b c d=>HP.o p s a b c d);clear HP HY HN CO hp;go_wp2
   go_ret3
   exact⟨by rw[HX.o];rfl,rfl⟩
def Wj(k n:Nat):Nat:=if k=200 then 6+6*n else if k=201 then 1+6*n else if k=203 then n else if k=205 then 2+n else 2
theorem vH(k n:Nat)(w:World)(hn:n≤100000):Calls prog 116 (Q4 (k:Int) (n:Int)) w fun e w'=>e = .returned (.int .i64 (Wj k n:Nat))∧w=w':=by
 have HF:Hid (Wj k n=if k=200 then 6+6*n else if k=201 then 1+6*n else if k=203 then n else if k=205 then 2+n else 2):=rfl;generalize Wj k n=x at *
 have w1:IntKind.i64.wrap (6*(n:Int))=6*(n:Int):=Te _ Zo;have w2:IntKind.i64.wrap (6+6*(n:Int))=6+6*(n:Int):=Te _ Zo;have w3:IntKind.i64.wrap (1+6*(n:Int))=1+6*(n:Int):=Te _ Zo;have w4:IntKind.i64.wrap (2+(n:Int))=2+(n:Int):=Te _ Zo;by_cases k0:k=200
 ·have HX:Hid (x=6+6*n):=by show _=_;rw[HF.o,ZU k0]
  subst k0;exact kC
 by_cases k1:k=201
 ·have HX:Hid (x=1+6*n):=by show _=_;rw[HF.o,Z3 k0,ZU k1]
  subst k1;exact kC
 by_cases k3:k=203
 ·have HX:Hid (x=n):=by show _=_;rw[HF.o,Z3 k0,Z3 k1,ZU k3]
  subst k3;exact kC
 by_cases k5:k=205
 ·have HX:Hid (x=2+n):=by show _=_;rw[HF.o,Z3 k0,Z3 k1,Z3 k3,ZU k5]
  subst k5;exact kC
 have HX:Hid (x=2):=by show _=_;rw[HF.o,Z3 k0,Z3 k1,Z3 k3,Z3 k5]
 have e0:((k:Int)==200)=false:=by rw[WM];omega
 have e1:((k:Int)==201)=false:=by rw[WM];omega
 have e3:((k:Int)==203)=false:=by rw[WM];omega
 have e5:((k:Int)==205)=false:=by rw[WM];omega
 exact kC
end Go.Proofs.By
