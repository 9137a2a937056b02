/- Part of a proof. -/
import Derived.Test.YtpdjhlcbcomdkaaGreatDoorR37
import Derived.Test.YtpdjhlcbcomdkaaGreatDoorR38
set_option linter.unusedVariables false
set_option linter.unusedSimpArgs false
set_option maxRecDepth 100000
set_option maxHeartbeats 16000000
open Go Go.Q Go.Qr
namespace Go.Proofs.By
open Go.RowKit Go.Proofs.Heap Go.Proofs
open Go.Proofs.Rm (ZL ZN Va WH Inv V8 Room opens Xi YO Zt SK TJ EL JQ Yr YL)
open Go.Proofs.NM (Xz)
open Go.Proofs.Mem
theorem jG {w:World} {x:yj} (h:Il w x):∀ u∈Xu x,u.oneCell'=true:=by
 obtain ⟨⟨a1,c1,h1⟩,⟨a2,c2,h2⟩,⟨a3,c3,h3⟩⟩:=Vy.form h.p;obtain ⟨a4,c4,h4⟩:=YI.form h.i;obtain ⟨e,cv,ev,pv,iv⟩:=x;dsimp only at h1 h2 h3 h4;subst h1;subst h2;subst h3;subst h4;intro u hu;simp only [Xu,Sn,V_,List.cons_append,J2,KN,List.mem_nil_iff,or_false] at hu;rcases hu with rfl|rfl|rfl|rfl|rfl|rfl|rfl|rfl|rfl|rfl|rfl|rfl|rfl|rfl|rfl|rfl|rfl <;> rfl
structure MS (w w':World) (k b ob:Nat) (o7:Array Value) (cs:Array Value) (av:Value) (A:List FI) (ev:Value) (E:List yj) (lv:Value) (LS:List Zu) (T:ZN):Prop where
 st:WM w.heap.size w' k cs av A ev E lv LS
 ref:ZL w' b T
 op:w'.heap[ob]?=some (.cells o7 32 (0,0))
 Zg:Below w w w'
 kk:w.heap.size≤k
 bb:w.heap.size≤b
 oo:w.heap.size≤ob
section
variable {w w1 w2:World} {k b ob:Nat} {o7 cs:Array Value} {av:Value} {A:List FI} {ev:Value} {E:List yj} {lv:Value} {LS:List Zu} {T:ZN}
theorem MS.below (h:MS w w1 k b ob o7 cs av A ev E lv LS T) (hb:Below w1 w1 w2):MS w w2 k b ob o7 cs av A ev E lv LS T:=
 ⟨h.st.below hb,h.ref.below hb,(hb.block _ (ZW h.op)).trans h.op,h.Zg.trans (hb.mono h.Zg.size),h.kk,h.bb,h.oo⟩
theorem MS.Hd (h:MS w w1 k b ob o7 cs av A ev E lv LS T) (o:Nat) (u:Value):MS w (w1.setCell ⟨k,o,none⟩ u) k b ob o7 (cs.setIfInBounds o u) av A ev E lv LS T:=by
 have hf:Fr w1 (· = k) w1 (w1.setCell ⟨k,o,none⟩ u):=(Fr.refl _ _ _).setAt _ _;have hoff:=UY (ts:=[91,103,108,105,66]) h.st.Y8 Zd;exact ⟨h.st.Hd o u,Ul h.ref hf hoff,(hf.block _ (ZW h.op) (fun e=>UY (ts:=[32]) h.st.Y8 Zd _ Zi _ _ _ e h.op)).trans h.op,(Fr.setCell (p:=⟨k,o,none⟩) (Fr.Z7 PN h.Zg) (Ws h.kk) u).below,h.kk,h.bb,h.oo⟩
theorem MS.D7 (h:MS w w1 k b ob o7 cs av A ev E lv LS T) (hg:w1.grownBy w2 av.ownBlock) {v':Value} {l':List FI} (ho:w2.ownsRow w 35 4 v' l'.length (l'.flatMap Vn)):MS w w2 k b ob o7 cs v' l' ev E lv LS T:=
 ⟨h.st.D7 hg ho,Ul h.ref (XY hg) (Ru h.st.XC Zd),(hg.block _ (ZW h.op) (fun e=>Za h.st.XC Zd _ _ _ e.symm h.op)).trans h.op,((Fr.Z7 PN h.Zg).grown hg h.Zg.size (YL h.st.XC)).below,h.kk,h.bb,h.oo⟩
theorem MS.zN (h:MS w w1 k b ob o7 cs av A ev E lv LS T) (hg:w1.grownBy w2 lv.ownBlock) {v':Value} {l':List Zu} (ho:w2.ownsRow w 59 4 v' l'.length (l'.flatMap ZX)):MS w w2 k b ob o7 cs av A ev E v' l' T:=
 ⟨h.st.zN hg ho,Ul h.ref (XY hg) (Ru h.st.P4 Zd),(hg.block _ (ZW h.op) (fun e=>Za h.st.P4 Zd _ _ _ e.symm h.op)).trans h.op,((Fr.Z7 PN h.Zg).grown hg h.Zg.size (YL h.st.P4)).below,h.kk,h.bb,h.oo⟩
theorem MS.nQ (h:MS w w1 k b ob o7 cs av A ev E lv LS T) (hg:w1.grownBy w2 ev.ownBlock) {v':Value} {x:yj} (hx:Il w1 x) (ho:w2.ownsRow w 84 17 v' (E++[x]).length ((E++[x]).flatMap Xu)):MS w w2 k b ob o7 cs av A v' (E++[x]) lv LS T:=
 ⟨h.st.nQ hg hx ho,Ul h.ref (XY hg) (Ru h.st.B_ Zd),(hg.block _ (ZW h.op) (fun e=>Za h.st.B_ Zd _ _ _ e.symm h.op)).trans h.op,((Fr.Z7 PN h.Zg).grown hg h.Zg.size (YL h.st.B_)).below,h.kk,h.bb,h.oo⟩
theorem MS.eo (h:MS w w1 k b ob o7 cs av A ev E lv LS T) (hf:Fr w1 (fun j=>lv.ownBlock=some j) w1 w2) {vG:List Zu} (ho:w2.ownsRow w 59 4 lv vG.length (vG.flatMap ZX)):MS w w2 k b ob o7 cs av A ev E lv vG T:=
 ⟨h.st.eo hf (Ru h.st.P4 Zd) ho,Ul h.ref hf (Ru h.st.P4 Zd),(hf.block _ (ZW h.op) (fun e=>Za h.st.P4 Zd _ _ _ e h.op)).trans h.op,h.Zg.trans ((hf.mono h.Zg.size (S':=PN) (fun i hi hs=>by have:=YL h.st.P4 i hs;omega)).below),h.kk,h.bb,h.oo⟩
theorem MS.room (h:MS w w1 k b ob o7 cs av A ev E lv LS T) {T':ZN} {cs':Array Value} (hk:w2.heap[k]?=some (.cells cs' 44 (0,0))) (hr:ZL w2 b T') (hf:Fr w1 (fun j=>j=k∨j=b) w1 w2):MS w w2 k b ob o7 cs' av A ev E lv LS T':=by
 obtain ⟨_,_,_,hc,_⟩:=h.ref.Vw;have h1:=pH (UY (ts:=32 :: Na.drop 1) h.st.Y8 Zd) (UY hc Zd);exact ⟨h.st.frS hf (fun e he=>h1 e (List.mem_cons_of_mem _ he)) hk,hr,(hf.block _ (ZW h.op) (fun e=>h1 _ (List.mem_cons_self ..) _ _ _ e h.op)).trans h.op,h.Zg.trans ((hf.mono h.Zg.size (S':=PN) (fun i hi hs=>by have:=h.kk;have:=h.bb;omega)).below),h.kk,h.bb,h.oo⟩
end
structure SS (w w':World) (k b:Nat) (vs:Option Addr) (vc:Nat) (av ev lv:Value) (L:List V7) (j:Nat) (E:List yj) (T:ZN) (R:Room) (ep:Int):Prop where
 st:WM w.heap.size w' k (Qx vs L.length vc av ev lv (PC L j).bad (PC L j).XB (PC L j).unknown (PC L j).refused 0 0 0 0 (some ⟨b,0,none⟩)) av (Xt L j) ev E lv (Yv L L.length j)
 ref:ZL w' b T
 Zg:Below w w w'
 kk:w.heap.size≤k
 bb:w.heap.size≤b
 B_:E.map (·.e)=I4 L j
 sim:WH T R
 inv:Inv R
 xP:V8 R
 bare:R.bare=(WV L j).1
 cA:ep=(WV L j).2
 li:LI L.length (opens R) (Yv L L.length j)
 vS:(PC L j).Below (8001*(j:Int))
 ops:Xf w' (.slice vs L.length vc) L
theorem SS.below {w w1 w2:World} {k b:Nat} {vs:Option Addr} {vc:Nat} {av ev lv:Value} {L:List V7} {j:Nat} {E:List yj} {T:ZN} {R:Room} {ep:Int} (h:SS w w1 k b vs vc av ev lv L j E T R ep) (hb:Below w1 w1 w2):SS w w2 k b vs vc av ev lv L j E T R ep:=
 ⟨h.st.below hb,h.ref.below hb,h.Zg.trans (hb.mono h.Zg.size),h.kk,h.bb,h.B_,h.sim,h.inv,h.xP,h.bare,h.cA,h.li,h.vS,h.ops.below hb⟩
theorem rS (k b:Nat) (oa:Option Addr) (n oc:Nat) (av ev lv:Value) (c:OJ) (T:ZN) (R:Room) (ep:Int) (o:Rm.Op) (sa ba:Option Addr) (sc bl bc:Nat) (bs:List UInt8) (sv:Value) (w:World)
  (O7:w.heap[k]?=some (.cells (Qx oa n oc av ev lv c.bad c.XB c.unknown c.refused 0 0 0 0 (some ⟨b,0,none⟩)) 44 (0,0))) (hR:ZL w b T) (hs:WH T R) (hI:Inv R) (hS:V8 R) (hT:Xz w) (UT:o.name.length<9223372036854775807) (Mz:XR w (.slice sa o.ZK.length sc) o.ZK.length (YO o.ZK)) (sj:X6 w (.slice ba bl bc) bs) (h0:0≤ep) (h9:ep<1000000000) (hc:c.Below 1000000000) :
  Calls Tryz.prog 42 (Q4 (some ⟨k,0,none⟩) (Jo o sa o.ZK.length sc ba bl bc) ep) w (Ue k b oa n oc av ev lv c (take R ep o bs sv) w):=by
 by_cases h:o.kind=1
 ·exact ny k b oa n oc av ev lv c T R ep o sa ba o.ZK.length sc bl bc bs sv w O7 hR hs hI hS sj h0 h9 hc h
 ·exact rT k b oa n oc av ev lv c T R ep o sa ba sc bl bc bs sv w O7 hR hs hI hT UT Mz h0 h9 hc h
theorem iU (v:Value) (L:List V7) (w:World) (hT:Xz w) (h:Xf w v L) (hL:L.length≤256) :
  Calls Tryz.prog 17 #[v] w fun e w'=>∃ k b vs vc av ev lv E T R ep,e = .returned (.pointer (some ⟨k,0,none⟩))∧SS w w' k b vs vc av ev lv L L.length E T R ep:=by
 obtain ⟨va,vc,rfl,hvc,zZ⟩:=h.form;have hKm:min (L.length:Int) 256=(L.length:Int):=by omega
 obtain ⟨vs,Uw,-,GF⟩:=Sp (P:=Tryz.prog) v_ va L.length vc L.length Zo
 have HO:Hid (Xf w (.slice vs L.length vc) L):=by
  have h2:=h.take (Zw _) GF
  rwa [nv] at h2
 have HT:Hid (∀ w',Below w w w'→Xz w'):=fun w' h=>Utf8Tabs_below hT h
 clear h GF hT;go_enter Tryz.func17,Tryz.ntmps17;go_upto_region 2 with fail
 have uO:=V5 w (Je none 0 0 none 0 0 none 0 0) (Jf vs L.length vc none 0 0 none 0 0 none 0 0 0 0 0 0 0 0 0 0 (some ⟨w,0,none⟩)) 91 44;have Vk:Hid (Below w w ((w.alloc (.cells (Je none 0 0 none 0 0 none 0 0) 91)).alloc (.cells (Jf vs L.length vc none 0 0 none 0 0 none 0 0 0 0 0 0 0 0 0 0 (some ⟨w,0,none⟩)) 44))):=ZF (Z' w _) (Zw _) _;obtain ⟨QJ,Sh,pd⟩:=uO;have k0:((w.alloc (.cells (Je none 0 0 none 0 0 none 0 0) 91)).alloc (.cells (Jf vs L.length vc none 0 0 none 0 0 none 0 0 0 0 0 0 0 0 0 0 (some ⟨w,0,none⟩)) 44)).cell? ⟨w.heap.size+1,0,none⟩=some (.slice vs L.length vc):=Zc Sh 0 rfl
 have F3:Hid (SS w ((w.alloc (.cells (Je none 0 0 none 0 0 none 0 0) 91)).alloc (.cells (Jf vs L.length vc none 0 0 none 0 0 none 0 0 0 0 0 0 0 0 0 0 (some ⟨w,0,none⟩)) 44)) (w.heap.size+1) w.heap.size vs vc (.slice none 0 0) (.slice none 0 0) (.slice none 0 0) L 0 [] ⟨[],[],[]⟩ Rm.empty 0):=
  ⟨⟨Sh,TY _ _ _ _,TY _ _ _ _,fun _ h=>(by cases h),TY _ _ _ _⟩,⟨_,_,_,QJ,Row.nil _ _,⟨[],rfl,Row.nil _ _,fun _ h=>(by cases h)⟩,Row.nil _ _⟩,Vk.o,Ix _,Zw _,rfl,EL,SK,TJ,rfl,rfl,by rw [JQ];exact LI.nil _,(show pF.Below (8001*((0:Nat):Int)) from ⟨by decide,by decide,by decide,by decide⟩),HO.o.below Vk.o⟩
 clear QJ Sh pd;generalize ((w.alloc (.cells (Je none 0 0 none 0 0 none 0 0) 91)).alloc (.cells (Jf vs L.length vc none 0 0 none 0 0 none 0 0 0 0 0 0 0 0 0 0 (some ⟨w,0,none⟩)) 44))=w0 at *
 go_wp2_with fail
 go_loopw [4,25] (fun s4 s25 w'=>∃ (j:Nat) (av ev lv:Value) (E:List yj) (T:ZN) (R:Room) (ep:Int),j≤L.length∧s25 = .int .i64 (j:Int)∧s4 = .int .i64 ep∧SS w w' (w.heap.size+1) w.heap.size vs vc av ev lv L j E T R ep) (fun _ s25 _=>L.length-(intOf s25).toNat)
 case atStart=>exact ⟨0,_,_,_,_,_,_,_,Zo,rfl,rfl,F3.o⟩
 case round=>
  obtain ⟨j,av,ev,lv,E,T,R,ep,hj,rfl,rfl,SI⟩:=hrel;have qA:=Zh SI;clear F3 k0;by_cases RV:j<L.length
  ·obtain ⟨aa,ac,hav⟩:=Row.form (Row.Z6 SI.st.XC);obtain ⟨ea,ec,cQ⟩:=Row.form (Row.Z6 SI.st.B_);obtain ⟨la,lc,oz⟩:=Row.form (Row.Z6 SI.st.P4);subst hav;subst cQ;subst oz;have hhk:=SI.kk;have hhb:=SI.bb;have hKB:(w.heap.size+1)≠w.heap.size:=by omega
   generalize w.heap.size+1=k at *
   obtain ⟨b,hbd0⟩:∃ b,b=w.heap.size:=⟨_,rfl⟩;have lT:=Zh hbd0;clear hbd0;have yt:Hid (SS w wr k b vs vc (.slice aa (Xt L j).length ac) (.slice ea E.length ec) (.slice la (Yv L L.length j).length lc) L j E T R ep):=by rw [lT.o];exact SI
   obtain ⟨g',off',cap',e1,-,-,-,VQ⟩:=Rm.Dk (fun y:V7=>Xi y.x) 7 (fun _=>rfl) Zo SI.ops.row Zo;cases e1;have hy:L[j]?=some L[j]:=Vb RV;have VQ:=VQ j _ hy;have j4:=HO.o.each L[j] (PA RV);have BF:=Zh (fun sv=>AQ hy SI.bare SI.cA sv);have DD:Hid (QE L j=wh L[j].x.o L[j].b):=by show _=_;unfold QE;rw [hy]
   have cL:=Kp L j;rw [←SI.cA] at cL;have fe:=Zh (fun (T':ZN) (sv:Value) (h':WH T' (take R ep L[j].x.o L[j].b sv).1.2)=>wW (n:=L.length) (at':=j) Zo SI.inv SI.xP SI.sim ep L[j].x.o L[j].b sv h' SI.li);have PJ:=Zh (fun sv=>vg SI.inv SI.xP ep L[j].x.o L[j].b sv);have HEP:=Zh (EK RV);have hEb:E.length≤256:=by have h2:=congrArg List.length SI.B_;rw [TB] at h2;rw [h2];unfold I4;rw [TB,List.length_range];omega
   have HCN:Hid (PC L (j+1)=(PC L j).add (Z5 L j).XC.kind (Z5 L j).unknown):=rfl;have HCB:=Zh SI.vS;have HAS:=Zh (IY L j);have HES:=Zh (wj L j);have HEE:=Zh SI.B_;have HLS:Hid (Yv L L.length (j+1)=WX L.length j (Yv L L.length j) (Z5 L j).turns):=rfl;have hlen:=P5 L L.length j;have U6:(Xt L j).length≤256:=by rw [Ww];omega
   have hcb:(PC L j).Below 1000000000:=by
    obtain ⟨⟨a1,a2⟩,⟨b1,b2⟩,⟨c1,c2⟩,⟨d1,d2⟩⟩:=SI.vS;exact ⟨⟨a1,Zo⟩,⟨b1,Zo⟩,⟨c1,Zo⟩,⟨d1,Zo⟩⟩
   have MG:=Zh SI.sim;have EPS:=Zh SI.cA;have rh:=Zh yt.o.st;have T9:=Zh yt.o.ref;have Px:=Zh yt.o.Zg;have iL:=Zh yt.o.kk;have HQ4:=Zh yt.o.bb;have HINV:=Zh SI.inv;have HSLM:=Zh SI.xP;clear hy;generalize L[j]=y at *
   generalize Yv L L.length j=LS at *
   generalize Xt L j=A at *
   generalize PC L j=c at *
   obtain ⟨⟨⟨kd,p,s,q,nm,ss⟩,sa,sc,ba,bl,bc⟩,bs⟩:=y;dsimp only at j4 BF DD fe PJ;obtain ⟨Mz,sj,UT⟩:=j4;have M3:wr.rangeAt g' (off'+j*7) (Qa kd p s q (str nm) sa ss.length sc ba bl bc):=fun m v hm=>(VQ m (by have h:=(List.getElem?_eq_some_iff.1 hm).1;simpa using h)).trans hm
   have zW:(j:Int)<(L.length:Int):=OP.2 RV;have hz:=Z8 wr (.cells (Qa 0 0 0 0 ⟨#[]⟩ none 0 0 none 0 0) 32);have Rh:=setRow_heap _ _ _ (Qa kd p s q (str nm) sa ss.length sc ba bl bc) _ _ hz;have V6:Hid (Below wr wr ((wr.alloc (.cells (Qa 0 0 0 0 ⟨#[]⟩ none 0 0 none 0 0) 32)).setRow wr.heap.size (Qa kd p s q (str nm) sa ss.length sc ba bl bc))):=Z3 (Z' wr _) (Zw _) _;have kZ:Hid (MS w ((wr.alloc (.cells (Qa 0 0 0 0 ⟨#[]⟩ none 0 0 none 0 0) 32)).setRow wr.heap.size (Qa kd p s q (str nm) sa ss.length sc ba bl bc)) k b wr.heap.size (Qa kd p s q (str nm) sa ss.length sc ba bl bc) (Qx (some ⟨g',off',none⟩) L.length vc (.slice aa A.length ac) (.slice ea E.length ec) (.slice la LS.length lc) c.bad c.XB c.unknown c.refused 0 0 0 0 (some ⟨b,0,none⟩)) (.slice aa A.length ac) A (.slice ea E.length ec) E (.slice la LS.length lc) LS T):=⟨rh.o.below V6.o,T9.o.below V6.o,Rh,Px.o.trans (V6.o.mono Px.o.size),iL.o,HQ4.o,Px.o.size⟩;clear VQ SI yt qA V6 rh T9 Px iL HQ4;go_upto_region 6 with (first|(with_reducible refine Zj 32 (.tmp 28) rfl ?_;refine Zm M3 Tryz.underlying32 ?_)|(with_reducible refine ZU 32 (.tmp 6) (.tmp 29) rfl ?_;refine Zs hz ?_))
   clear hz M3 Rh;generalize ((wr.alloc (.cells (Qa 0 0 0 0 ⟨#[]⟩ none 0 0 none 0 0) 32)).setRow wr.heap.size (Qa kd p s q (str nm) sa ss.length sc ba bl bc))=w1 at *
   generalize wr.heap.size=ob at *
   have o6:w1.cell? ⟨ob,6,none⟩=some (.slice ba bl bc):=Zc kZ.o.op 6 rfl;have CS:=Zh (EF _ bs w1 (XR.below sj kZ.o.Zg));have iC:Hid (wh ⟨kd,p,s,q,nm,ss⟩ bs=if kd=1 then (XN bs).1 else .none):=rfl;generalize XN bs=SB at *
   obtain ⟨D,er⟩:=SB;dsimp only at CS iC;go_upto_if 38 with (go_at_call 41;refine CS.o.mono ?_;rintro e w2 ⟨⟨a,rfl,Ma⟩,Y7⟩;obtain ⟨cv,xv,pv,iv,rfl,IB⟩:=zl.form Ma;obtain ⟨⟨ca,cc,FM⟩,⟨vY,vZ,hxv⟩,⟨pa,pc,Md⟩⟩:=Vy.form IB.p;obtain ⟨ia,ic,zV⟩:=YI.form IB.i;dsimp only at FM hxv Md zV;subst FM;subst hxv;subst Md;subst zV;dsimp only [Xu,Sn,V_,List.cons_append,J2];have HRR:=Zh IB;have X8:=Zh Y7;have dD:=(Y7.block _ (ZW kZ.o.op)).trans kZ.o.op;have hob3:=((Z' w2 (.cells (Jr D.kd D.pk ca cc vY vZ pa pc D.ds ia D.il.length ic) 84)).block _ (ZW dD)).trans dD;have o0:(w2.alloc (.cells (Jr D.kd D.pk ca cc vY vZ pa pc D.ds ia D.il.length ic) 84)).cell? ⟨ob,0,none⟩=some (.int .i64 kd):=(Zc hob3 0 rfl);clear Ma IB Y7 dD hob3)
   have LK:=Z8 w2 (.cells (Jr D.kd D.pk ca cc vY vZ pa pc D.ds ia D.il.length ic) 84);have Ux:Hid (Below w1 w1 (w2.alloc (.cells (Jr D.kd D.pk ca cc vY vZ pa pc D.ds ia D.il.length ic) 84))):=ZF X8.o (Zw _) _;have HM4:=Zh (kZ.o.below Ux.o);have Rl:Hid (Below w1 w1 ((w2.alloc (.cells (Jr D.kd D.pk ca cc vY vZ pa pc D.ds ia D.il.length ic) 84)).setRow w2.heap.size (Qj 0 false 0 0 0 0 none 0 0 false 0 none 0 0 none 0 0 0 0 false false 0 none 0 0))):=Z3 Ux.o X8.o.size _;have HM5:=Zh (kZ.o.below Rl.o);have HXR:=Zh (HRR.o.below (Z' w2 (.cells (Jr D.kd D.pk ca cc vY vZ pa pc D.ds ia D.il.length ic) 84)))
   have hNE:∀ g,(Value.slice ea E.length ec).ownBlock=some g→g≠w2.heap.size:=fun g hg=>by
    obtain ⟨cur,hc⟩:=Wo kZ.o.st.B_ g hg;have h1:=ZW hc;have h2:=X8.o.size;omega
   have hobe:ob≠w2.heap.size:=by have h1:=ZW kZ.o.op;have h2:=X8.o.size;omega
   clear CS X8 HRR Ux Rl o6;generalize hW4:(w2.alloc (.cells (Jr D.kd D.pk ca cc vY vZ pa pc D.ds ia D.il.length ic) 84))=w4 at *
   generalize w2.heap.size=eb at *
   clear hW4;go_cut [] (fun wx=>∃ x:yj,x.e=wh ⟨kd,p,s,q,nm,ss⟩ bs∧Il wx x∧wx.heap[eb]?=some (.cells (Xu x).toArray 84 (0,0))∧MS w wx k b ob (Qa kd p s q (str nm) sa ss.length sc ba bl bc) (Qx (some ⟨g',off',none⟩) L.length vc (.slice aa A.length ac) (.slice ea E.length ec) (.slice la LS.length lc) c.bad c.XB c.unknown c.refused 0 0 0 0 (some ⟨b,0,none⟩)) (.slice aa A.length ac) A (.slice ea E.length ec) E (.slice la LS.length lc) LS T)
   case first=>
    by_cases hk:kd=1
    ·have e1:(kd != 1)=false:=by rw [hk];rfl
     have hx:(⟨D,.slice ca D.pk.VN.length cc,.slice vY D.pk.ext.length vZ,.slice pa D.pk.ZG.length pc,.slice ia D.il.length ic⟩:yj).e=wh ⟨kd,p,s,q,nm,ss⟩ bs:=by rw [iC.o];exact (ZR hk).symm
     have HHX:=Zh hx;have lf:=Zh LK;clear hx hk LK;go_wp2_with fail
     go_meet;exact ⟨_,HHX.o,HXR.o,lf.o,HM4.o⟩
    ·have e1:(kd != 1)=true:=by rw [RQ];exact hk
     have hx:(Ev.none)=wh ⟨kd,p,s,q,nm,ss⟩ bs:=by rw [iC.o];exact (Z4 hk).symm
     have HHX:=Zh hx;clear hx hk;go_wp2_with (first|(with_reducible refine ZU 84 (.tmp 7) (.tmp 39) rfl ?_;refine Zs LK ?_))
     go_meet;exact ⟨⟨.none,.slice none 0 0,.slice none 0 0,.slice none 0 0,.slice none 0 0⟩,HHX.o,⟨Vy.nil _,YI.nil _⟩,setRow_heap _ _ _ _ _ _ LK,HM5.o⟩
   case rest=>
    obtain ⟨w5,rfl⟩:∃ W:World,W=wc:=⟨_,rfl⟩;obtain ⟨x,hxe,aq,Ac,Tt⟩:=hcut;have HXE:=Zh hxe;have HXR5:=Zh aq;have HM5b:=Zh Tt;clear HM4 HM5 HXR LK o0 hxe iC;go_upto_region 9 with fail
    go_cut [] (fun wx=>∃ (na:Option Addr) (nc:Nat),MS w wx k b ob (Qa kd p s q (str nm) sa ss.length sc ba bl bc) (Qx (some ⟨g',off',none⟩) L.length vc (.slice aa A.length ac) (.slice na (E.length+1) nc) (.slice la LS.length lc) c.bad c.XB c.unknown c.refused 0 0 0 0 (some ⟨b,0,none⟩)) (.slice aa A.length ac) A (.slice na (E.length+1) nc) (E++[x]) (.slice la LS.length lc) LS T)
    case first=>
     have qV:=Zh (Tt.below (YJ _ _).drew);have Cr:=((YJ w5.heap.size w5).drew.block _ (ZW Ac)).trans Ac;have HXRd:=Zh (aq.below (YJ _ _).drew);have Zz:Hid (∀ w':World,w'.heap[k]?=some (.cells (Qx (some ⟨g',off',none⟩) L.length vc (.slice aa A.length ac) (.slice ea E.length ec) (.slice la LS.length lc) c.bad c.XB c.unknown c.refused 0 0 0 0 (some ⟨b,0,none⟩)) 44 (0,0))→w'.heap[eb]?=some (.cells (Xu x).toArray 84 (0,0))→w'.cell? ⟨k,2,none⟩=some (.slice ea E.length ec)∧w'.heap[eb]?=some (.cells (Xu x).toArray 84 (0,0))):=fun w' h1 h2=>⟨Zc h1 2 rfl,h2⟩
     clear Tt aq;refine SX ?_;refine Z_.Zy (d:=7) (S:=(fun w'=>w'.cell? ⟨k,2,none⟩=some (.slice ea E.length ec)∧w'.heap[eb]?=some (.cells (Xu x).toArray 84 (0,0)))) Zk ?_ (fun Ye=>?_)
     ·(try dsimp only)
      exact Zz.o _ qV.o.st.Y8 Cr
     refine YP 0 (h:=YP 1 (h:=YP 2 (h:=YP 3 (h:=YK 4 (h:=?_)))));refine Z_.tk 5 ?_ rfl ?_ <| ?_
     rotate_left
     ·intro wS Uq;(try dsimp only at Uq)
      refine Vf 84 (.tmp 7) ?_ eb ?_ 84 (Xu x).toArray (0,0) _ Uq.2 Tryz.underlying84 rfl Zk;all_goals rfl
     try simp only [Z_.pt]
     refine YR 6 (h:=fun K hK=>?_);refine Xg Zr nL (.tmp 45) Zr (Xu x).toArray Zr Zr Zd ?_;have iG:=Zh (qV.o.below (Z' w5.drew (.cells (Xu x).toArray 84)));have HXR6:=Zh (HXRd.o.below (Z' w5.drew (.cells (Xu x).toArray 84)));have o8:=((Z' w5.drew (.cells (Xu x).toArray 84)).block _ (ZW Cr)).trans Cr;refine Z_.Zb hK _ _ ?_ (fun XU=>?_)
     ·(try dsimp only)
      first|exact Zz.o _ iG.o.st.Y8 o8|exact Zz.o _ qV.o.st.Y8 Cr
     clear hK K;try simp only [Z_.pt]
     refine YR 7 (h:=fun K hK=>?_);refine Zp Zr (.tmp 44) (.tmp 46) 38 Zr w.heap.size nL (.slice ea E.length ec) E.length (E.flatMap Xu) Zr iG.o.st.B_ (.slice (some ⟨w5.drew.heap.size,0,none⟩) 1 1) 1 ([x].flatMap Xu) Zr (Yr _ _ 1 _ ([x].flatMap Xu) Zd rfl) rfl (U4 (l:=[x]) fun y hy=>by rw [J1.1 hy];exact jG HXRd.o) Zo Zo ?_ ?_
     ·exact iG.o.Zg.size
     intro v' w6 yR HG;have NH:Hid (w6.ownsRow w 84 17 v' (E++[x]).length ((E++[x]).flatMap Xu)):=(by have h:=yR.o;rw [UE,OQ];exact h);obtain ⟨na,nc,NK,-⟩:=Row.Z6 NH.o;subst NK;have FY:=Zh (iG.o.nQ HG.o HXR6.o NH.o);have c2:w6.cell? ⟨k,2,none⟩=some (.slice ea E.length ec):=Zc FY.o.st.Y8 2 rfl;have f2:w6.frozen? ⟨k,2,none⟩=false:=ZO FY.o.st.Y8 2;refine Z_.Yk hK _ _ Zk ?_;clear hK K;try simp only [Z_.pt]
     refine YP 8 (h:=YP 9 (h:=?_));refine YR 10 (h:=fun K hK=>?_);go_simp;refine Z_.Yk hK _ _ Zk ?_;clear hK K;try simp only [Z_.pt]
     refine Z_.YC Zk ?_ _;refine RA ?_;have h8:=FY.o.Hd 2 (.slice na (E++[x]).length nc);have qL:(E++[x]).length=E.length+1:=by simp
     rw [qL] at h8;have HM8:=Zh h8;clear h8;go_wp2_with fail
     go_meet;exact ⟨na,nc,HM8.o⟩
    case rest=>
     obtain ⟨w6,rfl⟩:∃ W:World,W=wc:=⟨_,rfl⟩;obtain ⟨na,nc,Fg⟩:=hcut;have iG:=Zh Fg;clear HM5b HXR5 Tt aq Ac hNE hobe;obtain ⟨pv,sv,uv,gZ,XJ⟩:=Fg.ref.Vw;obtain ⟨ua,uc,huv⟩:=Row.form XJ.Z0;subst huv;have HWAS:=Zh XJ.Z0;have b2:w6.cell? ⟨b,2,none⟩=some (.slice ua T.Z0.length uc):=Zc gZ 2 rfl;have k12:w6.cell? ⟨k,12,none⟩=some (.pointer (some ⟨b,0,none⟩)):=Zc Fg.st.Y8 12 rfl;have GD:=Fg.op;have CA:=Zh (rS k b (some ⟨g',off',none⟩) L.length vc (.slice aa A.length ac) (.slice na (E.length+1) nc) (.slice la LS.length lc) c T R ep ⟨kd,p,s,q,nm,ss⟩ sa ba sc bl bc bs (.slice none 0 0) w6 Fg.st.Y8 Fg.ref MG.o HINV.o HSLM.o (HT.o _ Fg.Zg) UT (Mz.below Fg.Zg) (XR.below sj Fg.Zg) cL.1 Zo hcb);obtain ⟨hst1,dM,dN⟩:=BF.o (.slice none 0 0);have aV:=Zh (fun T' h=>fe.o T' (.slice none 0 0) h);have yS:=Zh (PJ.o (.slice none 0 0));have dQ:=NB L j;clear gZ XJ Fg BF fe PJ;generalize take R ep ⟨kd,p,s,q,nm,ss⟩ bs (.slice none 0 0)=X at *
     obtain ⟨⟨tk,R2⟩,ep2⟩:=X;dsimp only at hst1 dM dN aV yS;subst hst1;generalize Z5 L j=tk at *
     have iO:=Zh dM;have ry:=Zh dN;have Bq:=Zh cL;clear dM dN;unfold Ue at CA;dsimp only at CA;have Py:tk.XC=⟨tk.XC.kind,tk.XC.source,tk.XC.N6,tk.XC.err⟩:=rfl;have JV:=Zh Py;clear Py;generalize tk.XC.kind=ak at *
     generalize tk.XC.source=as' at *
     generalize tk.XC.N6=ae at *
     generalize tk.XC.err=ar at *
     generalize tk.unknown=tu at *
     go_upto_if 63 with (first|(with_reducible refine Zj 32 (.tmp 6) rfl ?_;refine Zl GD Tryz.underlying32 ?_)|(go_at_call 42;refine CA.o.mono ?_;rintro e w7 ⟨rfl,GC,⟨T2,ku,dK⟩,j5⟩;have FY:=Zh (iG.o.room GC ku j5);have bp:=Zh dK;have a0:(w7.alloc (.cells (Qc ak as' ae ar) 35)).cell? ⟨w7,0,none⟩=some (.int .i64 ak):=(by rw [cell_of (Z8 w7 (.cells (Qc ak as' ae ar) 35)) 0];rfl);have HW7:=Zh (Row.fr HWAS.o j5 (Zw _) (pH (UY (ts:=[105]) iG.o.st.Y8 Zd) (fun e he j' c' fr' hj' K5=>by obtain ⟨_,_,_,gZ,_⟩:=iG.o.ref.Vw;exact UY (ts:=[105]) gZ Zd e he j' c' fr' hj' K5) _ (J1.2 rfl)));clear GC ku dK j5))
     clear CA iG HWAS GD b2 k12;have NS:=Z8 w7 (.cells (Qc ak as' ae ar) 35);have HM8:=Zh (FY.o.below (Z' w7 (.cells (Qc ak as' ae ar) 35)));have HW8:=Zh (Row.below HW7.o (Z' w7 (.cells (Qc ak as' ae ar) 35)))
     have hNA:∀ g,(Value.slice aa A.length ac).ownBlock=some g→g≠w7.heap.size:=fun g hg=>by
      obtain ⟨cur,hc⟩:=Wo FY.o.st.XC g hg;have h1:=ZW hc;omega
     clear FY HW7;generalize hW8:(w7.alloc (.cells (Qc ak as' ae ar) 35))=w8 at *
     generalize w7.heap.size=ab at *
     clear hW8;obtain ⟨hlv1,hlv2⟩:=aV.o T2 bp.o;have HLV3:=Zh hlv1;have HLI3:=Zh hlv2;clear hlv1 hlv2 aV;go_cut [4] (fun s4 wx=>s4 = .int .i64 ep2∧wx=w8)
     case first=>
      rcases HEP.o with ⟨h2,-,h3⟩|⟨h2,h3,-⟩
      ·have e1:(ak == 2)=true:=by rw [beq_iff_eq];exact h2
       have e2:ep2=ep+1:=by rw [ry.o,h3,EPS.o]
       clear h2 h3;go_wp2_with fail
       go_meet;exact ⟨by rw [e2],rfl⟩
      ·have e1:(ak == 2)=false:=by rw [WR];exact h2
       have e2:ep2=ep:=by rw [ry.o,h3,EPS.o]
       clear h2 h3;go_wp2_with fail
       go_meet;exact ⟨by rw [e2],rfl⟩
     case rest=>
      obtain ⟨rfl,hcw⟩:=hcut;replace hcw:=hcw.symm;subst hcw;go_upto_region 14 with fail
      have HAB:=Zh NS;go_cut [] (fun wx=>∃ (ma:Option Addr) (mc:Nat),MS w wx k b ob (Qa kd p s q (str nm) sa ss.length sc ba bl bc) (Qx (some ⟨g',off',none⟩) L.length vc (.slice ma (A.length+1) mc) (.slice na (E.length+1) nc) (.slice la LS.length lc) (c.add ak tu).bad (c.add ak tu).XB (c.add ak tu).unknown (c.add ak tu).refused 0 0 0 0 (some ⟨b,0,none⟩)) (.slice ma (A.length+1) mc) (A++[⟨ak,as',ae,ar⟩]) (.slice na (E.length+1) nc) (E++[x]) (.slice la LS.length lc) LS T2∧wx.heap[ab]?=some (.cells (Qc ak as' ae ar) 35 (0,0))∧Row wx 105 (.slice ua T.Z0.length uc) T.Z0.length (T.Z0.flatMap Zt))
      case first=>
       have qV:=Zh (HM8.o.below (YJ _ _).drew);have Cr:=((YJ w8.heap.size w8).drew.block _ (ZW NS)).trans NS;have HWd:=Zh (Row.below HW8.o (YJ w8.heap.size w8).drew);have Zz:Hid (∀ w':World,w'.heap[k]?=some (.cells (Qx (some ⟨g',off',none⟩) L.length vc (.slice aa A.length ac) (.slice na (E.length+1) nc) (.slice la LS.length lc) (c.add ak tu).bad (c.add ak tu).XB (c.add ak tu).unknown (c.add ak tu).refused 0 0 0 0 (some ⟨b,0,none⟩)) 44 (0,0))→w'.heap[ab]?=some (.cells (Qc ak as' ae ar) 35 (0,0))→w'.cell? ⟨k,1,none⟩=some (.slice aa A.length ac)∧w'.heap[ab]?=some (.cells (Qc ak as' ae ar) 35 (0,0))):=fun w' h1 h2=>⟨Zc h1 1 rfl,h2⟩
       clear NS;refine SX ?_;refine Z_.Zy (d:=7) (S:=(fun w'=>w'.cell? ⟨k,1,none⟩=some (.slice aa A.length ac)∧w'.heap[ab]?=some (.cells (Qc ak as' ae ar) 35 (0,0)))) Zk ?_ (fun Ye=>?_)
       ·(try dsimp only)
        exact Zz.o _ qV.o.st.Y8 Cr
       refine YP 0 (h:=YP 1 (h:=YP 2 (h:=YP 3 (h:=YK 4 (h:=?_)))));refine Z_.tk 5 ?_ rfl ?_ <| ?_
       rotate_left
       ·intro wS Uq;(try dsimp only at Uq)
        refine Vf 35 (.tmp 10) ?_ ab ?_ 35 (Qc ak as' ae ar) (0,0) _ Uq.2 Tryz.underlying35 rfl Zk;all_goals rfl
       try simp only [Z_.pt]
       refine YR 6 (h:=fun K hK=>?_);refine Xg Zr Oe (.tmp 71) Zr (Qc ak as' ae ar) Zr Zr Zd ?_;have mi:=Zh (qV.o.below (Z' w8.drew (.cells (Qc ak as' ae ar) 35)));have o8:=((Z' w8.drew (.cells (Qc ak as' ae ar) 35)).block _ (ZW Cr)).trans Cr;have HWs:=Zh (Row.below HWd.o (Z' w8.drew (.cells (Qc ak as' ae ar) 35)));refine Z_.Zb hK _ _ ?_ (fun XU=>?_)
       ·(try dsimp only)
        first|exact Zz.o _ mi.o.st.Y8 o8|exact Zz.o _ qV.o.st.Y8 Cr
       clear hK K;try simp only [Z_.pt]
       refine YR 7 (h:=fun K hK=>?_);refine Zp Zr (.tmp 70) (.tmp 72) 37 Zr w.heap.size Oe (.slice aa A.length ac) A.length (A.flatMap Vn) Zr mi.o.st.XC (.slice (some ⟨w8.drew.heap.size,0,none⟩) 1 1) 1 ([(⟨ak,as',ae,ar⟩:FI)].flatMap Vn) Zr (Yr _ _ 1 _ ([(⟨ak,as',ae,ar⟩:FI)].flatMap Vn) Zd rfl) rfl (U4 fun y _=>Hw y) Zo Zo ?_ ?_
       ·exact mi.o.Zg.size
       intro v' w9 yR HG;have NH:Hid (w9.ownsRow w 35 4 v' (A++[(⟨ak,as',ae,ar⟩:FI)]).length ((A++[(⟨ak,as',ae,ar⟩:FI)]).flatMap Vn)):=(by have h:=yR.o;rw [UE,OQ];exact h);obtain ⟨ma,mc,NK,-⟩:=Row.Z6 NH.o;subst NK;have FY:=Zh (mi.o.D7 HG.o NH.o);have c1:w9.cell? ⟨k,1,none⟩=some (.slice aa A.length ac):=Zc FY.o.st.Y8 1 rfl;have f1:w9.frozen? ⟨k,1,none⟩=false:=ZO FY.o.st.Y8 1;have HAB9:=Zh ((HG.o.block _ (ZW o8) (fun e=>hNA _ e.symm rfl)).trans o8);have HW9:=Zh (Row.fr HWs.o (XY HG.o) (Zw _) (Za mi.o.st.XC Zd));refine Z_.Yk hK _ _ Zk ?_;clear hK K;try simp only [Z_.pt]
       refine YP 8 (h:=YP 9 (h:=?_));refine YR 10 (h:=fun K hK=>?_);go_simp;refine Z_.Yk hK _ _ Zk ?_;clear hK K;try simp only [Z_.pt]
       refine Z_.YC Zk ?_ _;refine RA ?_;have h8:=FY.o.Hd 1 (.slice ma (A++[(⟨ak,as',ae,ar⟩:FI)]).length mc);have qL:(A++[(⟨ak,as',ae,ar⟩:FI)]).length=A.length+1:=by simp
       rw [qL] at h8;have HM9:=Zh h8;have hkab:ab≠k:=fun e=>by have h1:=FY.o.st.Y8;rw [←e,HAB9.o] at h1;injection h1 with h1;injection h1 with _ h1;exact absurd h1 Zd
       have HAB10:=Zh ((MH w9 ⟨k,1,none⟩ (.slice ma (A.length+1) mc) ab hkab).trans HAB9.o);have JW:=Zh (Row.fr HW9.o (Fr.setAt (Fr.refl w9.heap.size (· = k) w9) 1 (.slice ma (A.length+1) mc)) (Zw _) (UY (ts:=[105]) FY.o.st.Y8 Zd _ (J1.2 rfl)));clear h8;go_wp2_with fail
       go_meet;exact ⟨ma,mc,HM9.o,HAB10.o,JW.o⟩
      case rest=>
       obtain ⟨UH,rfl⟩:∃ W:World,W=wc:=⟨_,rfl⟩;obtain ⟨ma,mc,Eg,uC,hw10⟩:=hcut;have HM10:=Zh Eg;have CO:=Zh (pK w.heap.size k b (some ⟨g',off',none⟩) L.length vc (.slice ma (A.length+1) mc) (.slice na (E.length+1) nc) (.slice la LS.length lc) (.slice ua T.Z0.length uc) _ _ _ _ LS T2 T.Z0 (j:Int) UH Eg.st.Y8 Eg.ref Eg.st.P4 hw10);clear HM8 HW8 NS HAB hNA hw10;go_upto_region 16 with (go_at_call 43;refine CO.o.mono ?_;rintro e JR ⟨rfl,ho11,cS⟩;have aW:=Zh (HM10.o.eo cS ho11);have hab11:=(cS.block _ (ZW uC) (fun e=>Za Eg.st.P4 Zd _ _ _ e uC)).trans uC;clear ho11 cS)
       clear CO HM10 Eg uC;have a0b:JR.cell? ⟨ab,0,none⟩=some (.int .i64 ak):=Zc hab11 0 rfl;have GD:=aW.o.op;have o0:JR.cell? ⟨ob,0,none⟩=some (.int .i64 kd):=Zc GD 0 rfl;have qz:Hid (TV L.length j T T2 ak ⟨kd,p,s,q,nm,ss⟩ LS=RJ L.length j T2 T.Z0 LS++if ak=2∧kd=6 then [⟨p,s,j,L.length⟩] else []):=rfl;have HOL:=Zh (M4 L.length j T2 T.Z0 LS)
       have lX:Hid (∀ (w':World) (Cx:Value),MS w w' k b ob (Qa kd p s q (str nm) sa ss.length sc ba bl bc) (Qx (some ⟨g',off',none⟩) L.length vc (.slice ma (A.length+1) mc) (.slice na (E.length+1) nc) Cx (c.add ak tu).bad (c.add ak tu).XB (c.add ak tu).unknown (c.add ak tu).refused 0 0 0 0 (some ⟨b,0,none⟩)) (.slice ma (A.length+1) mc) (A++[⟨ak,as',ae,ar⟩]) (.slice na (E.length+1) nc) (E++[x]) Cx (TV L.length j T T2 ak ⟨kd,p,s,q,nm,ss⟩ LS) T2→SS w w' k b (some ⟨g',off',none⟩) vc (.slice ma (A.length+1) mc) (.slice na (E.length+1) nc) Cx L (j+1) (E++[x]) T2 R2 ep2):=fun w' Cx h=>by
        have R4:(c.add ak tu).Below (8001*((j+1:Nat):Int)):=by
         have e8:8001*((j+1:Nat):Int)=8001*(j:Int)+8001:=by omega
         rw [e8];exact rR HCB.o ak yS.o.2.2.1 yS.o.2.2.2.1
        have yE:=h.st;refine ⟨?_,h.ref,h.Zg,h.kk,h.bb,?_,bp.o,yS.o.1,yS.o.2.1,iO.o,ry.o,by rw [HLS.o];exact HLI3.o,by rw [HCN.o];exact R4,HO.o.below h.Zg⟩
        ·rw [HCN.o,HAS.o,HLS.o,HLV3.o,JV.o];exact yE
        ·rw [NR,HEE.o,HES.o,DD.o,←HXE.o];rfl
       generalize RJ L.length j T2 T.Z0 LS=OV at *
       by_cases hc:ak=2∧kd=6
       rotate_left
       ·have hRL:TV L.length j T T2 ak ⟨kd,p,s,q,nm,ss⟩ LS=OV:=by rw [qz.o,Z4 hc,um]
        rw [hRL] at lX;have HFN:=Zh (lX.o JR _ aW.o);clear qz hRL lX;have Tn:ak≠2∨(ak=2∧kd≠6):=by by_cases a:ak=2 <;> by_cases b:kd=6 <;> simp [a,b];exact hc ⟨a,b⟩
        clear hc;rcases Tn with h|⟨rfl,h⟩
        case' inl=>have e1:(ak == 2)=false:=by rw [WR];exact h
        case' inr=>have e1:(kd == 6)=false:=by rw [WR];exact h
        all_goals
         clear h;go_wp2_with fail
         go_roundw
         case rel=>exact ⟨j+1,_,_,_,_,_,_,ep2,Zo,Zn,rfl,by have h:=HFN.o;rw [lT.o] at h;exact h⟩
         case measure=>simp [intOf];omega
       obtain ⟨rfl,rfl⟩:=hc;have hRL:TV L.length j T T2 2 ⟨6,p,s,q,nm,ss⟩ LS=OV++[⟨p,s,j,L.length⟩]:=by rw [qz.o,ZR ⟨rfl,rfl⟩]
       rw [hRL] at lX;clear qz hRL;have hOVb:OV.length≤10000000:=by rw [HOL.o];omega
       go_upto_region 17 with fail
       have qV:=Zh (aW.o.below (YJ _ _).drew);have Zz:Hid (∀ w':World,w'.heap[k]?=some (.cells (Qx (some ⟨g',off',none⟩) L.length vc (.slice ma (A.length+1) mc) (.slice na (E.length+1) nc) (.slice la LS.length lc) (c.add 2 tu).bad (c.add 2 tu).XB (c.add 2 tu).unknown (c.add 2 tu).refused 0 0 0 0 (some ⟨b,0,none⟩)) 44 (0,0))→w'.heap[ob]?=some (.cells (Qa 6 p s q (str nm) sa ss.length sc ba bl bc) 32 (0,0))→w'.cell? ⟨k,3,none⟩=some (.slice la LS.length lc)∧w'.cell? ⟨ob,1,none⟩=some (.int .i64 p)∧w'.cell? ⟨ob,2,none⟩=some (.int .i64 s)∧w'.cell? ⟨k,0,none⟩=some (.slice (some ⟨g',off',none⟩) L.length vc)):=fun w' h1 h2=>⟨Zc h1 3 rfl,Zc h2 1 rfl,Zc h2 2 rfl,Zc h1 0 rfl⟩
       refine SX ?_;refine Z_.Zy (d:=17) (S:=(fun w'=>w'.cell? ⟨k,3,none⟩=some (.slice la LS.length lc)∧w'.cell? ⟨ob,1,none⟩=some (.int .i64 p)∧w'.cell? ⟨ob,2,none⟩=some (.int .i64 s)∧w'.cell? ⟨k,0,none⟩=some (.slice (some ⟨g',off',none⟩) L.length vc))) Zk ?_ (fun Ye=>?_)
       ·(try dsimp only)
        exact Zz.o _ qV.o.st.Y8 qV.o.op
       refine YP 0 (h:=YP 1 (h:=YP 2 (h:=YP 3 (h:=YP 5 (h:=YP 7 (h:=YP 9 (h:=YP 10 (h:=YP 11 (h:=YP 12 (h:=YK 4 (h:=YK 6 (h:=YK 8 (h:=YK 13 (h:=YP 14 (h:=YP 15 (h:=?_))))))))))))))));refine YR 16 (h:=fun K hK=>?_);refine Xg Zr KR (.tmp 103) Zr (Qc p s (j:Int) (L.length:Int)) Zr Zr Zd ?_;have mi:=Zh (qV.o.below (Z' JR.drew (.cells (Qc p s (j:Int) (L.length:Int)) 59)));refine Z_.Zb hK _ _ ?_ (fun XU=>?_)
       ·(try dsimp only)
        first|exact Zz.o _ mi.o.st.Y8 mi.o.op|exact Zz.o _ qV.o.st.Y8 qV.o.op
       clear hK K;try simp only [Z_.pt]
       refine YR 17 (h:=fun K hK=>?_);refine Zp Zr (.tmp 92) (.tmp 104) 39 Zr w.heap.size KR (.slice la LS.length lc) OV.length (OV.flatMap ZX) Zr mi.o.st.P4 (.slice (some ⟨JR.drew.heap.size,0,none⟩) 1 1) 1 ([(⟨p,s,(j:Int),(L.length:Int)⟩:Zu)].flatMap ZX) Zr (Yr _ _ 1 _ ([(⟨p,s,(j:Int),(L.length:Int)⟩:Zu)].flatMap ZX) Zd rfl) rfl (U4 fun y _=>Al y) Zo Zo ?_ ?_
       ·exact mi.o.Zg.size
       intro v' aA yR HG;have NH:Hid (aA.ownsRow w 59 4 v' (OV++[(⟨p,s,(j:Int),(L.length:Int)⟩:Zu)]).length ((OV++[(⟨p,s,(j:Int),(L.length:Int)⟩:Zu)]).flatMap ZX)):=(by have h:=yR.o;rw [UE,OQ];exact h);obtain ⟨da,dc,NK,-⟩:=Row.Z6 NH.o;subst NK;have FY:=Zh (mi.o.zN HG.o NH.o);have c3:aA.cell? ⟨k,3,none⟩=some (.slice la LS.length lc):=Zc FY.o.st.Y8 3 rfl;have f3:aA.frozen? ⟨k,3,none⟩=false:=ZO FY.o.st.Y8 3;refine Z_.Yk hK _ _ Zk ?_;clear hK K;try simp only [Z_.pt]
       refine YP 18 (h:=YP 19 (h:=?_));refine YR 20 (h:=fun K hK=>?_);go_simp;refine Z_.Yk hK _ _ Zk ?_;clear hK K;try simp only [Z_.pt]
       refine Z_.YC Zk ?_ _;refine RA ?_;have h8:=FY.o.Hd 3 (.slice da (OV++[(⟨p,s,(j:Int),(L.length:Int)⟩:Zu)]).length dc);have qL:(OV++[(⟨p,s,(j:Int),(L.length:Int)⟩:Zu)]).length=OV.length+1:=by simp
       rw [qL] at h8;have HFN:=Zh (lX.o _ _ h8);clear h8 qL;go_wp2_with fail
       go_roundw
       case rel=>exact ⟨j+1,_,_,_,_,_,_,ep2,Zo,Zn,rfl,by have h:=HFN.o;rw [lT.o] at h;exact h⟩
       case measure=>simp [intOf];omega
  ·have Mc:j=L.length:=by omega
   subst Mc;clear SI;go_wp2;go_ret;exact ⟨_,_,vs,vc,av,ev,lv,E,T,R,ep,rfl,qA.o⟩
def bX:Zu:=⟨2,3,3,5⟩
theorem bAdms (h:Nat):Xt (Gb h) 5=[⟨2,0,1,0⟩,⟨2,0,2,0⟩,⟨2,0,3,0⟩,⟨2,0,4,0⟩,⟨1,3,4,0⟩]:=by kernel_rfl
theorem cg (h:Nat):Yv (Gb h) ((5:Nat):Int) 5=[bX]:=by kernel_rfl
end Go.Proofs.By
