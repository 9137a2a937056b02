/- Part of a proof. -/
import Derived.Test.YtpdjhlcbcomdkaaGreatDoorW33
import Derived.Test.YtpdjhlcbcomdkaaGreatDoorW34
set_option linter.unusedVariables false
set_option linter.unusedSimpArgs false
set_option maxRecDepth 100000
set_option maxHeartbeats 16000000
open Go Go.Q Go.Qr
namespace Go.Proofs.By
open Go.RowKit Go.Proofs.Heap Go.Proofs
open Go.Proofs.Rm (ZL ZN Vj WL Inv Wa Room opens Xm YO Zv SQ TQ E3 J1 Yu YL)
open Go.Proofs.Od (Xz)
open Go.Proofs.Mem
theorem kr {w:World} {x:yI} (h:IE w x):∀ u∈Xg x,u.oneCell'=true:=by
 obtain ⟨⟨a1,c1,h1⟩,⟨a2,c2,h2⟩,⟨a3,c3,h3⟩⟩:=Vt.form h.p
 obtain ⟨a4,c4,h4⟩:=YI.form h.i
 obtain ⟨e,cv,ev,pv,iv⟩:=x
 dsimp only at h1 h2 h3 h4
 subst h1;subst h2;subst h3;subst h4
 intro u hu
 simp only [Xg,Rn,VN,List.cons_append,Jy,Mg,List.mem_nil_iff,or_false] at hu
 rcases hu with rfl|rfl|rfl|rfl|rfl|rfl|rfl|rfl|rfl|rfl|rfl|rfl|rfl|rfl|rfl|rfl|rfl <;> rfl
structure MS (w w':World) (k b ob:Nat) (o7:Array Value) (cs:Array Value) (av:Value) (A:List FZ) (ev:Value) (E:List yI) (lv:Value) (LS:List Zq) (T:ZN):Prop where
 st:WO w.heap.size w' k cs av A ev E lv LS
 ref:ZL w' b T
 op:w'.heap[ob]?=some (.cells o7 32 (0,0))
 Zj:Below w w w'
 kk:w.heap.size≤k
 bb:w.heap.size≤b
 oo:w.heap.size≤ob
section
variable {w w1 w2:World} {k b ob:Nat} {o7 cs:Array Value} {av:Value} {A:List FZ} {ev:Value} {E:List yI} {lv:Value} {LS:List Zq} {T:ZN}
theorem MS.below (h:MS w w1 k b ob o7 cs av A ev E lv LS T) (hb:Below w1 w1 w2):MS w w2 k b ob o7 cs av A ev E lv LS T:=
 ⟨h.st.below hb,h.ref.below hb,(hb.block _ (ZV h.op)).trans h.op,h.Zj.trans (hb.mono h.Zj.size),h.kk,h.bb,h.oo⟩
theorem MS.Hs (h:MS w w1 k b ob o7 cs av A ev E lv LS T) (o:Nat) (u:Value):MS w (w1.setCell ⟨k,o,none⟩ u) k b ob o7 (cs.setIfInBounds o u) av A ev E lv LS T:=by
 have hf:Fr w1 (· = k) w1 (w1.setCell ⟨k,o,none⟩ u):=(Fr.refl _ _ _).setAt _ _
 have hoff:=U4 (ts:=[91,103,108,105,66]) h.st.Za Zd
 exact ⟨h.st.Hs o u,Uu h.ref hf hoff,(hf.block _ (ZV h.op) (fun e=>U4 (ts:=[32]) h.st.Za Zd _ Zi _ _ _ e h.op)).trans h.op,(Fr.setCell (p:=⟨k,o,none⟩) (Fr.Z8 P_ h.Zj) (Ww h.kk) u).below,h.kk,h.bb,h.oo⟩
theorem MS.Ej (h:MS w w1 k b ob o7 cs av A ev E lv LS T) (hg:w1.grownBy w2 av.ownBlock) {v':Value} {l':List FZ} (ho:w2.ownsRow w 35 4 v' l'.length (l'.flatMap WE)):MS w w2 k b ob o7 cs v' l' ev E lv LS T:=
 ⟨h.st.Ej hg ho,Uu h.ref (XZ hg) (RN h.st.XE Zd),(hg.block _ (ZV h.op) (fun e=>Zf h.st.XE Zd _ _ _ e.symm h.op)).trans h.op,((Fr.Z8 P_ h.Zj).grown hg h.Zj.size (YL h.st.XE)).below,h.kk,h.bb,h.oo⟩
theorem MS.Ad (h:MS w w1 k b ob o7 cs av A ev E lv LS T) (hg:w1.grownBy w2 lv.ownBlock) {v':Value} {l':List Zq} (ho:w2.ownsRow w 59 4 v' l'.length (l'.flatMap ZY)):MS w w2 k b ob o7 cs av A ev E v' l' T:=
 ⟨h.st.Ad hg ho,Uu h.ref (XZ hg) (RN h.st.QS Zd),(hg.block _ (ZV h.op) (fun e=>Zf h.st.QS Zd _ _ _ e.symm h.op)).trans h.op,((Fr.Z8 P_ h.Zj).grown hg h.Zj.size (YL h.st.QS)).below,h.kk,h.bb,h.oo⟩
theorem MS.oL (h:MS w w1 k b ob o7 cs av A ev E lv LS T) (hg:w1.grownBy w2 ev.ownBlock) {v':Value} {x:yI} (hx:IE w1 x) (ho:w2.ownsRow w 84 17 v' (E++[x]).length ((E++[x]).flatMap Xg)):MS w w2 k b ob o7 cs av A v' (E++[x]) lv LS T:=
 ⟨h.st.oL hg hx ho,Uu h.ref (XZ hg) (RN h.st.yQ Zd),(hg.block _ (ZV h.op) (fun e=>Zf h.st.yQ Zd _ _ _ e.symm h.op)).trans h.op,((Fr.Z8 P_ h.Zj).grown hg h.Zj.size (YL h.st.yQ)).below,h.kk,h.bb,h.oo⟩
theorem MS.ft (h:MS w w1 k b ob o7 cs av A ev E lv LS T) (hf:Fr w1 (fun j=>lv.ownBlock=some j) w1 w2) {vY:List Zq} (ho:w2.ownsRow w 59 4 lv vY.length (vY.flatMap ZY)):MS w w2 k b ob o7 cs av A ev E lv vY T:=
 ⟨h.st.ft hf (RN h.st.QS Zd) ho,Uu h.ref hf (RN h.st.QS Zd),(hf.block _ (ZV h.op) (fun e=>Zf h.st.QS Zd _ _ _ e h.op)).trans h.op,h.Zj.trans ((hf.mono h.Zj.size (S':=P_) (fun i hi hs=>by have:=YL h.st.QS i hs;omega)).below),h.kk,h.bb,h.oo⟩
theorem MS.room (h:MS w w1 k b ob o7 cs av A ev E lv LS T) {T':ZN} {cs':Array Value} (hk:w2.heap[k]?=some (.cells cs' 44 (0,0))) (hr:ZL w2 b T') (hf:Fr w1 (fun j=>j=k∨j=b) w1 w2):MS w w2 k b ob o7 cs' av A ev E lv LS T':=by
 obtain ⟨_,_,_,hc,_⟩:=h.ref.VC
 have h1:=qj (U4 (ts:=32 :: Np.drop 1) h.st.Za Zd) (U4 hc Zd)
 exact ⟨h.st.frS hf (fun e he=>h1 e (List.mem_cons_of_mem _ he)) hk,hr,(hf.block _ (ZV h.op) (fun e=>h1 _ (List.mem_cons_self ..) _ _ _ e h.op)).trans h.op,h.Zj.trans ((hf.mono h.Zj.size (S':=P_) (fun i hi hs=>by have:=h.kk;have:=h.bb;omega)).below),h.kk,h.bb,h.oo⟩
end
structure SS (w w':World) (k b:Nat) (vs:Option Addr) (vc:Nat) (av ev lv:Value) (L:List VG) (j:Nat) (E:List yI) (T:ZN) (R:Room) (ep:Int):Prop where
 st:WO w.heap.size w' k (Qu vs L.length vc av ev lv (PX L j).bad (PX L j).XG (PX L j).unknown (PX L j).refused 0 0 0 0 (some ⟨b,0,none⟩)) av (XA L j) ev E lv (X8 L L.length j)
 ref:ZL w' b T
 Zj:Below w w w'
 kk:w.heap.size≤k
 bb:w.heap.size≤b
 yQ:E.map (·.e)=zZ L j
 sim:WL T R
 inv:Inv R
 yi:Wa R
 bare:R.bare=(WW L j).1
 dA:ep=(WW L j).2
 li:LI L.length (opens R) (X8 L L.length j)
 wH:(PX L j).Below (8001*(j:Int))
 ops:Xe w' (.slice vs L.length vc) L
theorem SS.below {w w1 w2:World} {k b:Nat} {vs:Option Addr} {vc:Nat} {av ev lv:Value} {L:List VG} {j:Nat} {E:List yI} {T:ZN} {R:Room} {ep:Int} (h:SS w w1 k b vs vc av ev lv L j E T R ep) (hb:Below w1 w1 w2):SS w w2 k b vs vc av ev lv L j E T R ep:=
 ⟨h.st.below hb,h.ref.below hb,h.Zj.trans (hb.mono h.Zj.size),h.kk,h.bb,h.yQ,h.sim,h.inv,h.yi,h.bare,h.dA,h.li,h.wH,h.ops.below hb⟩
theorem sD (k b:Nat) (oa:Option Addr) (n oc:Nat) (av ev lv:Value) (c:O7) (T:ZN) (R:Room) (ep:Int) (o:Rm.Op) (sa ba:Option Addr) (sc bl bc:Nat) (bs:List UInt8) (sv:Value) (w:World)
  (Pn:w.heap[k]?=some (.cells (Qu oa n oc av ev lv c.bad c.XG c.unknown c.refused 0 0 0 0 (some ⟨b,0,none⟩)) 44 (0,0))) (hR:ZL w b T) (hs:WL T R) (hI:Inv R) (hS:Wa R) (hT:Xz w) (U0:o.name.length<9223372036854775807) (Kn:XU w (.slice sa o.ZK.length sc) o.ZK.length (YO o.ZK)) (sU:X9 w (.slice ba bl bc) bs) (h0:0≤ep) (h9:ep<1000000000) (hc:c.Below 1000000000) :
  Calls Tryz.prog 42 (Q1 (some ⟨k,0,none⟩) (Jm o sa o.ZK.length sc ba bl bc) ep) w (Un k b oa n oc av ev lv c (take R ep o bs sv) w):=by
 by_cases h:o.kind=1
 ·exact n7 k b oa n oc av ev lv c T R ep o sa ba o.ZK.length sc bl bc bs sv w Pn hR hs hI hS sU h0 h9 hc h
 ·exact sF k b oa n oc av ev lv c T R ep o sa ba sc bl bc bs sv w Pn hR hs hI hT U0 Kn h0 h9 hc h
theorem uJ (v:Value) (L:List VG) (w:World) (hT:Xz w) (h:Xe w v L) (hL:L.length≤256) :
  Calls Tryz.prog 17 #[v] w fun e w'=>∃ k b vs vc av ev lv E T R ep,e = .returned (.pointer (some ⟨k,0,none⟩))∧SS w w' k b vs vc av ev lv L L.length E T R ep:=by
 obtain ⟨va,vc,rfl,hvc,BC⟩:=h.form
 have hKm:min (L.length:Int) 256=(L.length:Int):=by omega
 obtain ⟨vs,Uz,-,GX⟩:=Sy (P:=Tryz.prog) wN va L.length vc L.length Zo
 have HO:Hid (Xe w (.slice vs L.length vc) L):=by
  have h2:=h.take (Zw _) GX
  rwa [nZ] at h2
 have HT:Hid (∀ w',Below w w w'→Xz w'):=fun w' h=>Utf8Tabs_below hT h
 clear h GX hT
 go_enter Tryz.func17,Tryz.ntmps17
 go_upto_region 2 with fail
 have vg:=V9 w (Jd none 0 0 none 0 0 none 0 0) (Je vs L.length vc none 0 0 none 0 0 none 0 0 0 0 0 0 0 0 0 0 (some ⟨w,0,none⟩)) 91 44
 have Vp:Hid (Below w w ((w.alloc (.cells (Jd none 0 0 none 0 0 none 0 0) 91)).alloc (.cells (Je vs L.length vc none 0 0 none 0 0 none 0 0 0 0 0 0 0 0 0 0 (some ⟨w,0,none⟩)) 44))):=ZC (Z' w _) (Zw _) _
 obtain ⟨QV,Sr,pW⟩:=vg
 have k0:((w.alloc (.cells (Jd none 0 0 none 0 0 none 0 0) 91)).alloc (.cells (Je vs L.length vc none 0 0 none 0 0 none 0 0 0 0 0 0 0 0 0 0 (some ⟨w,0,none⟩)) 44)).cell? ⟨w.heap.size+1,0,none⟩=some (.slice vs L.length vc):=Zc Sr 0 rfl
 have Gi:Hid (SS w ((w.alloc (.cells (Jd none 0 0 none 0 0 none 0 0) 91)).alloc (.cells (Je vs L.length vc none 0 0 none 0 0 none 0 0 0 0 0 0 0 0 0 0 (some ⟨w,0,none⟩)) 44)) (w.heap.size+1) w.heap.size vs vc (.slice none 0 0) (.slice none 0 0) (.slice none 0 0) L 0 [] ⟨[],[],[]⟩ Rm.empty 0):=
  ⟨⟨Sr,Ua _ _ _ _,Ua _ _ _ _,fun _ h=>(by cases h),Ua _ _ _ _⟩,⟨_,_,_,QV,Row.nil _ _,⟨[],rfl,Row.nil _ _,fun _ h=>(by cases h)⟩,Row.nil _ _⟩,Vp.o,IP _,Zw _,rfl,E3,SQ,TQ,rfl,rfl,by rw [J1];exact LI.nil _,(show qh.Below (8001*((0:Nat):Int)) from ⟨by decide,by decide,by decide,by decide⟩),HO.o.below Vp.o⟩
 clear QV Sr pW
 generalize ((w.alloc (.cells (Jd none 0 0 none 0 0 none 0 0) 91)).alloc (.cells (Je vs L.length vc none 0 0 none 0 0 none 0 0 0 0 0 0 0 0 0 0 (some ⟨w,0,none⟩)) 44))=w0 at *
 go_wp2_with fail
 go_loopw [4,25] (fun s4 s25 w'=>∃ (j:Nat) (av ev lv:Value) (E:List yI) (T:ZN) (R:Room) (ep:Int),j≤L.length∧s25 = .int .i64 (j:Int)∧s4 = .int .i64 ep∧SS w w' (w.heap.size+1) w.heap.size vs vc av ev lv L j E T R ep) (fun _ s25 _=>L.length-(intOf s25).toNat)
 case atStart=>exact ⟨0,_,_,_,_,_,_,_,Zo,rfl,rfl,Gi.o⟩
 case round=>
  obtain ⟨j,av,ev,lv,E,T,R,ep,hj,rfl,rfl,SP⟩:=hrel
  have jz:=Zh SP
  clear Gi k0
  by_cases S4:j<L.length
  ·obtain ⟨aa,ac,dJ⟩:=Row.form (Row.Z6 SP.st.XE)
   obtain ⟨ea,ec,dR⟩:=Row.form (Row.Z6 SP.st.yQ)
   obtain ⟨la,lc,pj⟩:=Row.form (Row.Z6 SP.st.QS)
   subst dJ;subst dR;subst pj
   have hhk:=SP.kk
   have hhb:=SP.bb
   have hKB:(w.heap.size+1)≠w.heap.size:=by omega
   generalize w.heap.size+1=k at *
   obtain ⟨b,hbd0⟩:∃ b,b=w.heap.size:=⟨_,rfl⟩
   have mJ:=Zh hbd0
   clear hbd0
   have yN:Hid (SS w wr k b vs vc (.slice aa (XA L j).length ac) (.slice ea E.length ec) (.slice la (X8 L L.length j).length lc) L j E T R ep):=by rw [mJ.o];exact SP
   obtain ⟨g',off',cap',e1,-,-,-,Vc⟩:=Rm.DA (fun y:VG=>Xm y.x) 7 (fun _=>rfl) Zo SP.ops.row Zo
   cases e1
   have hy:L[j]?=some L[j]:=U7 S4
   have Vc:=Vc j _ hy
   have kR:=HO.o.each L[j] (Ot S4)
   have BZ:=Zh (fun sv=>A8 hy SP.bare SP.dA sv)
   have Bv:Hid (kq L j=sM L[j].x.o L[j].b):=by show _=_;unfold kq;rw [hy]
   have dM:=KE L j
   rw [←SP.dA] at dM
   have fS:=Zh (fun (T':ZN) (sv:Value) (h':WL T' (take R ep L[j].x.o L[j].b sv).1.2)=>xG (n:=L.length) (at':=j) Zo SP.inv SP.yi SP.sim ep L[j].x.o L[j].b sv h' SP.li)
   have P8:=Zh (fun sv=>vJ SP.inv SP.yi ep L[j].x.o L[j].b sv)
   have HEP:=Zh (E1 S4)
   have hEb:E.length≤256:=by have h2:=congrArg List.length SP.yQ;rw [Tx] at h2;rw [h2];unfold zZ;rw [Tx,List.length_range];omega
   have HCN:Hid (PX L (j+1)=(PX L j).add (ZX L j).XE.kind (ZX L j).unknown):=rfl
   have HCB:=Zh SP.wH
   have HAS:=Zh (Jz L j)
   have HES:=Zh (wO L j)
   have HEE:=Zh SP.yQ
   have HLS:Hid (X8 L L.length (j+1)=WY L.length j (X8 L L.length j) (ZX L j).turns):=rfl
   have hlen:=QG L L.length j
   have Vb:(XA L j).length≤256:=by rw [Xa];omega
   have hcb:(PX L j).Below 1000000000:=by
    obtain ⟨⟨a1,a2⟩,⟨b1,b2⟩,⟨c1,c2⟩,⟨d1,d2⟩⟩:=SP.wH
    exact ⟨⟨a1,Zo⟩,⟨b1,Zo⟩,⟨c1,Zo⟩,⟨d1,Zo⟩⟩
   have MV:=Zh SP.sim
   have EPS:=Zh SP.dA
   have rQ:=Zh yN.o.st
   have Ui:=Zh yN.o.ref
   have PU:=Zh yN.o.Zj
   have ju:=Zh yN.o.kk
   have HQ4:=Zh yN.o.bb
   have HINV:=Zh SP.inv
   have HSLM:=Zh SP.yi
   clear hy
   generalize L[j]=y at *
   generalize X8 L L.length j=LS at *
   generalize XA L j=A at *
   generalize PX L j=c at *
   obtain ⟨⟨⟨kd,p,s,q,nm,ss⟩,sa,sc,ba,bl,bc⟩,bs⟩:=y
   dsimp only at kR BZ Bv fS P8
   obtain ⟨Kn,sU,U0⟩:=kR
   have KQ:wr.rangeAt g' (off'+j*7) (Qa kd p s q (str nm) sa ss.length sc ba bl bc):=fun m v hm=>(Vc m (by have h:=(List.getElem?_eq_some_iff.1 hm).1;simpa using h)).trans hm
   have Al:(j:Int)<(L.length:Int):=Ou.2 S4
   have hz:=Z7 wr (.cells (Qa 0 0 0 0 ⟨#[]⟩ none 0 0 none 0 0) 32)
   have Pv:=setRow_heap _ _ _ (Qa kd p s q (str nm) sa ss.length sc ba bl bc) _ _ hz
   have VQ:Hid (Below wr wr ((wr.alloc (.cells (Qa 0 0 0 0 ⟨#[]⟩ none 0 0 none 0 0) 32)).setRow wr.heap.size (Qa kd p s q (str nm) sa ss.length sc ba bl bc))):=Z3 (Z' wr _) (Zw _) _
   have lX:Hid (MS w ((wr.alloc (.cells (Qa 0 0 0 0 ⟨#[]⟩ none 0 0 none 0 0) 32)).setRow wr.heap.size (Qa kd p s q (str nm) sa ss.length sc ba bl bc)) k b wr.heap.size (Qa kd p s q (str nm) sa ss.length sc ba bl bc) (Qu (some ⟨g',off',none⟩) L.length vc (.slice aa A.length ac) (.slice ea E.length ec) (.slice la LS.length lc) c.bad c.XG c.unknown c.refused 0 0 0 0 (some ⟨b,0,none⟩)) (.slice aa A.length ac) A (.slice ea E.length ec) E (.slice la LS.length lc) LS T):=⟨rQ.o.below VQ.o,Ui.o.below VQ.o,Pv,PU.o.trans (VQ.o.mono PU.o.size),ju.o,HQ4.o,PU.o.size⟩
   clear Vc SP yN jz VQ rQ Ui PU ju HQ4
   go_upto_region 6 with (first|((with_reducible refine Y8 32 (.tmp 28) rfl ?_);refine Zm KQ Tryz.underlying32 ?_)|((with_reducible refine ZU 32 (.tmp 6) (.tmp 29) rfl ?_);refine Zs hz ?_))
   clear hz KQ Pv
   generalize ((wr.alloc (.cells (Qa 0 0 0 0 ⟨#[]⟩ none 0 0 none 0 0) 32)).setRow wr.heap.size (Qa kd p s q (str nm) sa ss.length sc ba bl bc))=w1 at *
   generalize wr.heap.size=ob at *
   have o6:w1.cell? ⟨ob,6,none⟩=some (.slice ba bl bc):=Zc lX.o.op 6 rfl
   have CS:=Zh (EU _ bs w1 (XU.below sU lX.o.Zj))
   have jk:Hid (sM ⟨kd,p,s,q,nm,ss⟩ bs=if kd=1 then (XJ bs).1 else .none):=rfl
   generalize XJ bs=SB at *
   obtain ⟨D,er⟩:=SB
   dsimp only at CS jk
   go_upto_if 38 with (go_at_call 41;refine CS.o.mono ?_;rintro e w2 ⟨⟨a,rfl,Lm⟩,Y0⟩;obtain ⟨cv,xv,pv,iv,rfl,IW⟩:=zI.form Lm;obtain ⟨⟨ca,cc,F6⟩,⟨gZ,g_,hxv⟩,⟨pa,pc,Mr⟩⟩:=Vt.form IW.p;obtain ⟨ia,ic,Ak⟩:=YI.form IW.i;dsimp only at F6 hxv Mr Ak;subst F6;subst hxv;subst Mr;subst Ak;dsimp only [Xg,Rn,VN,List.cons_append,Jy];have HRR:=Zh IW;have X6:=Zh Y0;have ez:=(Y0.block _ (ZV lX.o.op)).trans lX.o.op;have hob3:=((Z' w2 (.cells (Js D.kd D.pk ca cc gZ g_ pa pc D.ds ia D.il.length ic) 84)).block _ (ZV ez)).trans ez;have o0:(w2.alloc (.cells (Js D.kd D.pk ca cc gZ g_ pa pc D.ds ia D.il.length ic) 84)).cell? ⟨ob,0,none⟩=some (.int .i64 kd):=(Zc hob3 0 rfl);clear Lm IW Y0 ez hob3)
   have L5:=Z7 w2 (.cells (Js D.kd D.pk ca cc gZ g_ pa pc D.ds ia D.il.length ic) 84)
   have Uc:Hid (Below w1 w1 (w2.alloc (.cells (Js D.kd D.pk ca cc gZ g_ pa pc D.ds ia D.il.length ic) 84))):=ZC X6.o (Zw _) _
   have HM4:=Zh (lX.o.below Uc.o)
   have P7:Hid (Below w1 w1 ((w2.alloc (.cells (Js D.kd D.pk ca cc gZ g_ pa pc D.ds ia D.il.length ic) 84)).setRow w2.heap.size (Ql 0 false 0 0 0 0 none 0 0 false 0 none 0 0 none 0 0 0 0 false false 0 none 0 0))):=Z3 Uc.o X6.o.size _
   have HM5:=Zh (lX.o.below P7.o)
   have aJ:=Zh (HRR.o.below (Z' w2 (.cells (Js D.kd D.pk ca cc gZ g_ pa pc D.ds ia D.il.length ic) 84)))
   have hNE:∀ g,(Value.slice ea E.length ec).ownBlock=some g→g≠w2.heap.size:=fun g hg=>by
    obtain ⟨cur,hc⟩:=Wq lX.o.st.yQ g hg
    have h1:=ZV hc
    have h2:=X6.o.size
    omega
   have hobe:ob≠w2.heap.size:=by have h1:=ZV lX.o.op;have h2:=X6.o.size;omega
   clear CS X6 HRR Uc P7 o6
   generalize hW4:(w2.alloc (.cells (Js D.kd D.pk ca cc gZ g_ pa pc D.ds ia D.il.length ic) 84))=w4 at *
   generalize w2.heap.size=eb at *
   clear hW4
   go_cut [] (fun wx=>∃ x:yI,x.e=sM ⟨kd,p,s,q,nm,ss⟩ bs∧IE wx x∧wx.heap[eb]?=some (.cells (Xg x).toArray 84 (0,0))∧MS w wx k b ob (Qa kd p s q (str nm) sa ss.length sc ba bl bc) (Qu (some ⟨g',off',none⟩) L.length vc (.slice aa A.length ac) (.slice ea E.length ec) (.slice la LS.length lc) c.bad c.XG c.unknown c.refused 0 0 0 0 (some ⟨b,0,none⟩)) (.slice aa A.length ac) A (.slice ea E.length ec) E (.slice la LS.length lc) LS T)
   case first=>
    by_cases hk:kd=1
    ·have e1:(kd != 1)=false:=by rw [hk];rfl
     have hx:(⟨D,.slice ca D.pk.VW.length cc,.slice gZ D.pk.ext.length g_,.slice pa D.pk.ZH.length pc,.slice ia D.il.length ic⟩:yI).e=sM ⟨kd,p,s,q,nm,ss⟩ bs:=by rw [jk.o];exact (ZQ hk).symm
     have HHX:=Zh hx
     have lZ:=Zh L5
     clear hx hk L5
     go_wp2_with fail
     go_meet
     exact ⟨_,HHX.o,aJ.o,lZ.o,HM4.o⟩
    ·have e1:(kd != 1)=true:=by rw [R6];exact hk
     have hx:(Ev.none)=sM ⟨kd,p,s,q,nm,ss⟩ bs:=by rw [jk.o];exact (Z4 hk).symm
     have HHX:=Zh hx
     clear hx hk
     go_wp2_with (first|((with_reducible refine ZU 84 (.tmp 7) (.tmp 39) rfl ?_);refine Zs L5 ?_))
     go_meet
     exact ⟨⟨.none,.slice none 0 0,.slice none 0 0,.slice none 0 0,.slice none 0 0⟩,HHX.o,⟨Vt.nil _,YI.nil _⟩,setRow_heap _ _ _ _ _ _ L5,HM5.o⟩
   case rest=>
    obtain ⟨w5,rfl⟩:∃ W:World,W=wc:=⟨_,rfl⟩
    obtain ⟨x,hxe,bp,Au,TF⟩:=hcut
    have HXE:=Zh hxe
    have HXR5:=Zh bp
    have HM5b:=Zh TF
    clear HM4 HM5 aJ L5 o0 hxe jk
    go_upto_region 9 with fail
    go_cut [] (fun wx=>∃ (na:Option Addr) (nc:Nat),MS w wx k b ob (Qa kd p s q (str nm) sa ss.length sc ba bl bc) (Qu (some ⟨g',off',none⟩) L.length vc (.slice aa A.length ac) (.slice na (E.length+1) nc) (.slice la LS.length lc) c.bad c.XG c.unknown c.refused 0 0 0 0 (some ⟨b,0,none⟩)) (.slice aa A.length ac) A (.slice na (E.length+1) nc) (E++[x]) (.slice la LS.length lc) LS T)
    case first=>
     have rK:=Zh (TF.below (YH _ _).drew)
     have De:=((YH w5.heap.size w5).drew.block _ (ZV Au)).trans Au
     have HXRd:=Zh (bp.below (YH _ _).drew)
     have Zz:Hid (∀ w':World,w'.heap[k]?=some (.cells (Qu (some ⟨g',off',none⟩) L.length vc (.slice aa A.length ac) (.slice ea E.length ec) (.slice la LS.length lc) c.bad c.XG c.unknown c.refused 0 0 0 0 (some ⟨b,0,none⟩)) 44 (0,0))→w'.heap[eb]?=some (.cells (Xg x).toArray 84 (0,0))→w'.cell? ⟨k,2,none⟩=some (.slice ea E.length ec)∧w'.heap[eb]?=some (.cells (Xg x).toArray 84 (0,0))):=fun w' h1 h2=>⟨Zc h1 2 rfl,h2⟩
     clear TF bp
     refine Sd ?_
     refine Z_.Zu (d:=7) (S:=(fun w'=>w'.cell? ⟨k,2,none⟩=some (.slice ea E.length ec)∧w'.heap[eb]?=some (.cells (Xg x).toArray 84 (0,0)))) Zk ?_ (fun X_=>?_)
     ·(try dsimp only)
      exact Zz.o _ rK.o.st.Za De
     refine YP 0 (h:=YP 1 (h:=YP 2 (h:=YP 3 (h:=YK 4 (h:=?_)))))
     refine Z_.tk 5 ?_ rfl ?_ <| ?_
     rotate_left
     ·intro wS TE;(try dsimp only at TE)
      refine TZ 84 (.tmp 7) ?_ eb ?_ 84 (Xg x).toArray (0,0) _ TE.2 Tryz.underlying84 rfl Zk
      all_goals rfl
     try simp only [Z_.pt]
     refine YR 6 (h:=fun K hK=>?_)
     refine Xk Zr oG (.tmp 45) Zr (Xg x).toArray Zr Zr Zd ?_
     have jq:=Zh (rK.o.below (Z' w5.drew (.cells (Xg x).toArray 84)))
     have HXR6:=Zh (HXRd.o.below (Z' w5.drew (.cells (Xg x).toArray 84)))
     have pU:=((Z' w5.drew (.cells (Xg x).toArray 84)).block _ (ZV De)).trans De
     refine Z_.Y_ hK _ _ ?_ (fun XC=>?_)
     ·(try dsimp only)
      first|exact Zz.o _ jq.o.st.Za pU|exact Zz.o _ rK.o.st.Za De
     clear hK K
     try simp only [Z_.pt]
     refine YR 7 (h:=fun K hK=>?_)
     refine Zp Zr (.tmp 44) (.tmp 46) 38 Zr w.heap.size oG (.slice ea E.length ec) E.length (E.flatMap Xg) Zr jq.o.st.yQ (.slice (some ⟨w5.drew.heap.size,0,none⟩) 1 1) 1 ([x].flatMap Xg) Zr (Yu _ _ 1 _ ([x].flatMap Xg) Zd rfl) rfl (U' (l:=[x]) fun y hy=>by rw [Kc.1 hy];exact kr HXRd.o) Zo Zo ?_ ?_
     ·exact jq.o.Zj.size
     intro v' w6 zt HG
     have NV:Hid (w6.ownsRow w 84 17 v' (E++[x]).length ((E++[x]).flatMap Xg)):=(by have h:=zt.o;rw [UM,O_];exact h)
     obtain ⟨na,nc,NZ,-⟩:=Row.Z6 NV.o
     subst NZ
     have Gg:=Zh (jq.o.oL HG.o HXR6.o NV.o)
     have c2:w6.cell? ⟨k,2,none⟩=some (.slice ea E.length ec):=Zc Gg.o.st.Za 2 rfl
     have f2:w6.frozen? ⟨k,2,none⟩=false:=ZO Gg.o.st.Za 2
     refine Z_.Ye hK _ _ Zk ?_
     clear hK K
     try simp only [Z_.pt]
     refine YP 8 (h:=YP 9 (h:=?_))
     refine YR 10 (h:=fun K hK=>?_)
     go_simp
     refine Z_.Ye hK _ _ Zk ?_
     clear hK K
     try simp only [Z_.pt]
     refine Z_.Yr Zk ?_ _
     refine QY ?_
     have h8:=Gg.o.Hs 2 (.slice na (E++[x]).length nc)
     have rB:(E++[x]).length=E.length+1:=by simp
     rw [rB] at h8
     have HM8:=Zh h8
     clear h8
     go_wp2_with fail
     go_meet
     exact ⟨na,nc,HM8.o⟩
    case rest=>
     obtain ⟨w6,rfl⟩:∃ W:World,W=wc:=⟨_,rfl⟩
     obtain ⟨na,nc,Fz⟩:=hcut
     have jq:=Zh Fz
     clear HM5b HXR5 TF bp Au hNE hobe
     obtain ⟨pv,sv,uv,iP,XM⟩:=Fz.ref.VC
     obtain ⟨ua,uc,huv⟩:=Row.form XM.Z5
     subst huv
     have HWAS:=Zh XM.Z5
     have b2:w6.cell? ⟨b,2,none⟩=some (.slice ua T.Z5.length uc):=Zc iP 2 rfl
     have k12:w6.cell? ⟨k,12,none⟩=some (.pointer (some ⟨b,0,none⟩)):=Zc Fz.st.Za 12 rfl
     have BD:=Fz.op
     have CA:=Zh (sD k b (some ⟨g',off',none⟩) L.length vc (.slice aa A.length ac) (.slice na (E.length+1) nc) (.slice la LS.length lc) c T R ep ⟨kd,p,s,q,nm,ss⟩ sa ba sc bl bc bs (.slice none 0 0) w6 Fz.st.Za Fz.ref MV.o HINV.o HSLM.o (HT.o _ Fz.Zj) U0 (Kn.below Fz.Zj) (XU.below sU Fz.Zj) dM.1 Zo hcb)
     obtain ⟨hst1,eJ,eK⟩:=BZ.o (.slice none 0 0)
     have bQ:=Zh (fun T' h=>fS.o T' (.slice none 0 0) h)
     have zu:=Zh (P8.o (.slice none 0 0))
     have eP:=NN L j
     clear iP XM Fz BZ fS P8
     generalize take R ep ⟨kd,p,s,q,nm,ss⟩ bs (.slice none 0 0)=X at *
     obtain ⟨⟨tk,R2⟩,aS⟩:=X
     dsimp only at hst1 eJ eK bQ zu
     subst hst1
     generalize ZX L j=tk at *
     have jA:=Zh eJ
     have rU:=Zh eK
     have yK:=Zh dM
     clear eJ eK
     unfold Un at CA
     dsimp only at CA
     have PV:tk.XE=⟨tk.XE.kind,tk.XE.source,tk.XE.Oj,tk.XE.err⟩:=rfl
     have J7:=Zh PV
     clear PV
     generalize tk.XE.kind=ak at *
     generalize tk.XE.source=as' at *
     generalize tk.XE.Oj=ae at *
     generalize tk.XE.err=ar at *
     generalize tk.unknown=tu at *
     go_upto_if 63 with (first|((with_reducible refine Y8 32 (.tmp 6) rfl ?_);refine Zl BD Tryz.underlying32 ?_)|(go_at_call 42;refine CA.o.mono ?_;rintro e w7 ⟨rfl,Es,⟨T2,lh,eI⟩,kS⟩;have Gg:=Zh (jq.o.room Es lh kS);have HS7:=Zh eI;have a0:(w7.alloc (.cells (Qe ak as' ae ar) 35)).cell? ⟨w7,0,none⟩=some (.int .i64 ak):=(by rw [cell_of (Z7 w7 (.cells (Qe ak as' ae ar) 35)) 0];rfl);have HW7:=Zh (Row.fr HWAS.o kS (Zw _) (qj (U4 (ts:=[105]) jq.o.st.Za Zd) (fun e he j' c' fr' hj' Ll=>by obtain ⟨_,_,_,iP,_⟩:=jq.o.ref.VC;exact U4 (ts:=[105]) iP Zd e he j' c' fr' hj' Ll) _ (Kc.2 rfl)));clear Es lh eI kS))
     clear CA jq HWAS BD b2 k12
     have N8:=Z7 w7 (.cells (Qe ak as' ae ar) 35)
     have HM8:=Zh (Gg.o.below (Z' w7 (.cells (Qe ak as' ae ar) 35)))
     have HW8:=Zh (Row.below HW7.o (Z' w7 (.cells (Qe ak as' ae ar) 35)))
     have hNA:∀ g,(Value.slice aa A.length ac).ownBlock=some g→g≠w7.heap.size:=fun g hg=>by
      obtain ⟨cur,hc⟩:=Wq Gg.o.st.XE g hg
      have h1:=ZV hc
      omega
     clear Gg HW7
     generalize hW8:(w7.alloc (.cells (Qe ak as' ae ar) 35))=w8 at *
     generalize w7.heap.size=ab at *
     clear hW8
     obtain ⟨hlv1,hlv2⟩:=bQ.o T2 HS7.o
     have HLV3:=Zh hlv1
     have HLI3:=Zh hlv2
     clear hlv1 hlv2 bQ
     go_cut [4] (fun s4 wx=>s4 = .int .i64 aS∧wx=w8)
     case first=>
      rcases HEP.o with ⟨h2,-,h3⟩|⟨h2,h3,-⟩
      ·have e1:(ak == 2)=true:=by rw [beq_iff_eq];exact h2
       have e2:aS=ep+1:=by rw [rU.o,h3,EPS.o]
       clear h2 h3
       go_wp2_with fail
       go_meet
       exact ⟨by rw [e2],rfl⟩
      ·have e1:(ak == 2)=false:=by rw [WQ];exact h2
       have e2:aS=ep:=by rw [rU.o,h3,EPS.o]
       clear h2 h3
       go_wp2_with fail
       go_meet
       exact ⟨by rw [e2],rfl⟩
     case rest=>
      obtain ⟨rfl,hcw⟩:=hcut
      replace hcw:=hcw.symm
      subst hcw
      go_upto_region 14 with fail
      have HAB:=Zh N8
      go_cut [] (fun wx=>∃ (ma:Option Addr) (mc:Nat),MS w wx k b ob (Qa kd p s q (str nm) sa ss.length sc ba bl bc) (Qu (some ⟨g',off',none⟩) L.length vc (.slice ma (A.length+1) mc) (.slice na (E.length+1) nc) (.slice la LS.length lc) (c.add ak tu).bad (c.add ak tu).XG (c.add ak tu).unknown (c.add ak tu).refused 0 0 0 0 (some ⟨b,0,none⟩)) (.slice ma (A.length+1) mc) (A++[⟨ak,as',ae,ar⟩]) (.slice na (E.length+1) nc) (E++[x]) (.slice la LS.length lc) LS T2∧wx.heap[ab]?=some (.cells (Qe ak as' ae ar) 35 (0,0))∧Row wx 105 (.slice ua T.Z5.length uc) T.Z5.length (T.Z5.flatMap Zv))
      case first=>
       have rK:=Zh (HM8.o.below (YH _ _).drew)
       have De:=((YH w8.heap.size w8).drew.block _ (ZV N8)).trans N8
       have HWd:=Zh (Row.below HW8.o (YH w8.heap.size w8).drew)
       have Zz:Hid (∀ w':World,w'.heap[k]?=some (.cells (Qu (some ⟨g',off',none⟩) L.length vc (.slice aa A.length ac) (.slice na (E.length+1) nc) (.slice la LS.length lc) (c.add ak tu).bad (c.add ak tu).XG (c.add ak tu).unknown (c.add ak tu).refused 0 0 0 0 (some ⟨b,0,none⟩)) 44 (0,0))→w'.heap[ab]?=some (.cells (Qe ak as' ae ar) 35 (0,0))→w'.cell? ⟨k,1,none⟩=some (.slice aa A.length ac)∧w'.heap[ab]?=some (.cells (Qe ak as' ae ar) 35 (0,0))):=fun w' h1 h2=>⟨Zc h1 1 rfl,h2⟩
       clear N8
       refine Sd ?_
       refine Z_.Zu (d:=7) (S:=(fun w'=>w'.cell? ⟨k,1,none⟩=some (.slice aa A.length ac)∧w'.heap[ab]?=some (.cells (Qe ak as' ae ar) 35 (0,0)))) Zk ?_ (fun X_=>?_)
       ·(try dsimp only)
        exact Zz.o _ rK.o.st.Za De
       refine YP 0 (h:=YP 1 (h:=YP 2 (h:=YP 3 (h:=YK 4 (h:=?_)))))
       refine Z_.tk 5 ?_ rfl ?_ <| ?_
       rotate_left
       ·intro wS TE;(try dsimp only at TE)
        refine TZ 35 (.tmp 10) ?_ ab ?_ 35 (Qe ak as' ae ar) (0,0) _ TE.2 Tryz.underlying35 rfl Zk
        all_goals rfl
       try simp only [Z_.pt]
       refine YR 6 (h:=fun K hK=>?_)
       refine Xk Zr Oz (.tmp 71) Zr (Qe ak as' ae ar) Zr Zr Zd ?_
       have mW:=Zh (rK.o.below (Z' w8.drew (.cells (Qe ak as' ae ar) 35)))
       have pU:=((Z' w8.drew (.cells (Qe ak as' ae ar) 35)).block _ (ZV De)).trans De
       have HWs:=Zh (Row.below HWd.o (Z' w8.drew (.cells (Qe ak as' ae ar) 35)))
       refine Z_.Y_ hK _ _ ?_ (fun XC=>?_)
       ·(try dsimp only)
        first|exact Zz.o _ mW.o.st.Za pU|exact Zz.o _ rK.o.st.Za De
       clear hK K
       try simp only [Z_.pt]
       refine YR 7 (h:=fun K hK=>?_)
       refine Zp Zr (.tmp 70) (.tmp 72) 37 Zr w.heap.size Oz (.slice aa A.length ac) A.length (A.flatMap WE) Zr mW.o.st.XE (.slice (some ⟨w8.drew.heap.size,0,none⟩) 1 1) 1 ([(⟨ak,as',ae,ar⟩:FZ)].flatMap WE) Zr (Yu _ _ 1 _ ([(⟨ak,as',ae,ar⟩:FZ)].flatMap WE) Zd rfl) rfl (U' fun y _=>Ig y) Zo Zo ?_ ?_
       ·exact mW.o.Zj.size
       intro v' w9 zt HG
       have NV:Hid (w9.ownsRow w 35 4 v' (A++[(⟨ak,as',ae,ar⟩:FZ)]).length ((A++[(⟨ak,as',ae,ar⟩:FZ)]).flatMap WE)):=(by have h:=zt.o;rw [UM,O_];exact h)
       obtain ⟨ma,mc,NZ,-⟩:=Row.Z6 NV.o
       subst NZ
       have Gg:=Zh (mW.o.Ej HG.o NV.o)
       have c1:w9.cell? ⟨k,1,none⟩=some (.slice aa A.length ac):=Zc Gg.o.st.Za 1 rfl
       have f1:w9.frozen? ⟨k,1,none⟩=false:=ZO Gg.o.st.Za 1
       have HAB9:=Zh ((HG.o.block _ (ZV pU) (fun e=>hNA _ e.symm rfl)).trans pU)
       have HW9:=Zh (Row.fr HWs.o (XZ HG.o) (Zw _) (Zf mW.o.st.XE Zd))
       refine Z_.Ye hK _ _ Zk ?_
       clear hK K
       try simp only [Z_.pt]
       refine YP 8 (h:=YP 9 (h:=?_))
       refine YR 10 (h:=fun K hK=>?_)
       go_simp
       refine Z_.Ye hK _ _ Zk ?_
       clear hK K
       try simp only [Z_.pt]
       refine Z_.Yr Zk ?_ _
       refine QY ?_
       have h8:=Gg.o.Hs 1 (.slice ma (A++[(⟨ak,as',ae,ar⟩:FZ)]).length mc)
       have rB:(A++[(⟨ak,as',ae,ar⟩:FZ)]).length=A.length+1:=by simp
       rw [rB] at h8
       have HM9:=Zh h8
       have hkab:ab≠k:=fun e=>by have h1:=Gg.o.st.Za;rw [←e,HAB9.o] at h1;injection h1 with h1;injection h1 with _ h1;exact absurd h1 Zd
       have HAB10:=Zh ((MW w9 ⟨k,1,none⟩ (.slice ma (A.length+1) mc) ab hkab).trans HAB9.o)
       have J8:=Zh (Row.fr HW9.o (Fr.setAt (Fr.refl w9.heap.size (· = k) w9) 1 (.slice ma (A.length+1) mc)) (Zw _) (U4 (ts:=[105]) Gg.o.st.Za Zd _ (Kc.2 rfl)))
       clear h8
       go_wp2_with fail
       go_meet
       exact ⟨ma,mc,HM9.o,HAB10.o,J8.o⟩
      case rest=>
       obtain ⟨SA,rfl⟩:∃ W:World,W=wc:=⟨_,rfl⟩
       obtain ⟨ma,mc,Et,uV,hw10⟩:=hcut
       have HM10:=Zh Et
       have CO:=Zh (qp w.heap.size k b (some ⟨g',off',none⟩) L.length vc (.slice ma (A.length+1) mc) (.slice na (E.length+1) nc) (.slice la LS.length lc) (.slice ua T.Z5.length uc) _ _ _ _ LS T2 T.Z5 (j:Int) SA Et.st.Za Et.ref Et.st.QS hw10)
       clear HM8 HW8 N8 HAB hNA hw10
       go_upto_region 16 with (go_at_call 43;refine CO.o.mono ?_;rintro e FX ⟨rfl,ho11,dU⟩;have bR:=Zh (HM10.o.ft dU ho11);have hab11:=(dU.block _ (ZV uV) (fun e=>Zf Et.st.QS Zd _ _ _ e uV)).trans uV;clear ho11 dU)
       clear CO HM10 Et uV
       have a0b:FX.cell? ⟨ab,0,none⟩=some (.int .i64 ak):=Zc hab11 0 rfl
       have BD:=bR.o.op
       have o0:FX.cell? ⟨ob,0,none⟩=some (.int .i64 kd):=Zc BD 0 rfl
       have rf:Hid (T9 L.length j T T2 ak ⟨kd,p,s,q,nm,ss⟩ LS=R3 L.length j T2 T.Z5 LS++if ak=2∧kd=6 then [⟨p,s,j,L.length⟩] else []):=rfl
       have HOL:=Zh (Ng L.length j T2 T.Z5 LS)
       have mN:Hid (∀ (w':World) (Dk:Value),MS w w' k b ob (Qa kd p s q (str nm) sa ss.length sc ba bl bc) (Qu (some ⟨g',off',none⟩) L.length vc (.slice ma (A.length+1) mc) (.slice na (E.length+1) nc) Dk (c.add ak tu).bad (c.add ak tu).XG (c.add ak tu).unknown (c.add ak tu).refused 0 0 0 0 (some ⟨b,0,none⟩)) (.slice ma (A.length+1) mc) (A++[⟨ak,as',ae,ar⟩]) (.slice na (E.length+1) nc) (E++[x]) Dk (T9 L.length j T T2 ak ⟨kd,p,s,q,nm,ss⟩ LS) T2→SS w w' k b (some ⟨g',off',none⟩) vc (.slice ma (A.length+1) mc) (.slice na (E.length+1) nc) Dk L (j+1) (E++[x]) T2 R2 aS):=fun w' Dk h=>by
        have Sg:(c.add ak tu).Below (8001*((j+1:Nat):Int)):=by
         have e8:8001*((j+1:Nat):Int)=8001*(j:Int)+8001:=by omega
         rw [e8]
         exact sB HCB.o ak zu.o.2.2.1 zu.o.2.2.2.1
        have yZ:=h.st
        refine ⟨?_,h.ref,h.Zj,h.kk,h.bb,?_,HS7.o,zu.o.1,zu.o.2.1,jA.o,rU.o,by rw [HLS.o];exact HLI3.o,by rw [HCN.o];exact Sg,HO.o.below h.Zj⟩
        ·rw [HCN.o,HAS.o,HLS.o,HLV3.o,J7.o];exact yZ
        ·rw [N7,HEE.o,HES.o,Bv.o,←HXE.o];rfl
       generalize R3 L.length j T2 T.Z5 LS=OV at *
       by_cases hc:ak=2∧kd=6
       rotate_left
       ·have hRL:T9 L.length j T T2 ak ⟨kd,p,s,q,nm,ss⟩ LS=OV:=by rw [rf.o,Z4 hc,wC]
        rw [hRL] at mN
        have HFN:=Zh (mN.o FX _ bR.o)
        clear rf hRL mN
        have Tz:ak≠2∨(ak=2∧kd≠6):=by by_cases a:ak=2 <;> by_cases b:kd=6 <;> simp [a,b];exact hc ⟨a,b⟩
        clear hc
        rcases Tz with h|⟨rfl,h⟩
        case' inl=>have e1:(ak == 2)=false:=by rw [WQ];exact h
        case' inr=>have e1:(kd == 6)=false:=by rw [WQ];exact h
        all_goals
         clear h
         go_wp2_with fail
         go_roundw
         case rel=>exact ⟨j+1,_,_,_,_,_,_,aS,Zo,Zn,rfl,by have h:=HFN.o;rw [mJ.o] at h;exact h⟩
         case measure=>simp [intOf];omega
       obtain ⟨rfl,rfl⟩:=hc
       have hRL:T9 L.length j T T2 2 ⟨6,p,s,q,nm,ss⟩ LS=OV++[⟨p,s,j,L.length⟩]:=by rw [rf.o,ZQ ⟨rfl,rfl⟩]
       rw [hRL] at mN
       clear rf hRL
       have hOVb:OV.length≤10000000:=by rw [HOL.o];omega
       go_upto_region 17 with fail
       have rK:=Zh (bR.o.below (YH _ _).drew)
       have Zz:Hid (∀ w':World,w'.heap[k]?=some (.cells (Qu (some ⟨g',off',none⟩) L.length vc (.slice ma (A.length+1) mc) (.slice na (E.length+1) nc) (.slice la LS.length lc) (c.add 2 tu).bad (c.add 2 tu).XG (c.add 2 tu).unknown (c.add 2 tu).refused 0 0 0 0 (some ⟨b,0,none⟩)) 44 (0,0))→w'.heap[ob]?=some (.cells (Qa 6 p s q (str nm) sa ss.length sc ba bl bc) 32 (0,0))→w'.cell? ⟨k,3,none⟩=some (.slice la LS.length lc)∧w'.cell? ⟨ob,1,none⟩=some (.int .i64 p)∧w'.cell? ⟨ob,2,none⟩=some (.int .i64 s)∧w'.cell? ⟨k,0,none⟩=some (.slice (some ⟨g',off',none⟩) L.length vc)):=fun w' h1 h2=>⟨Zc h1 3 rfl,Zc h2 1 rfl,Zc h2 2 rfl,Zc h1 0 rfl⟩
       refine Sd ?_
       refine Z_.Zu (d:=17) (S:=(fun w'=>w'.cell? ⟨k,3,none⟩=some (.slice la LS.length lc)∧w'.cell? ⟨ob,1,none⟩=some (.int .i64 p)∧w'.cell? ⟨ob,2,none⟩=some (.int .i64 s)∧w'.cell? ⟨k,0,none⟩=some (.slice (some ⟨g',off',none⟩) L.length vc))) Zk ?_ (fun X_=>?_)
       ·(try dsimp only)
        exact Zz.o _ rK.o.st.Za rK.o.op
       refine YP 0 (h:=YP 1 (h:=YP 2 (h:=YP 3 (h:=YP 5 (h:=YP 7 (h:=YP 9 (h:=YP 10 (h:=YP 11 (h:=YP 12 (h:=YK 4 (h:=YK 6 (h:=YK 8 (h:=YK 13 (h:=YP 14 (h:=YP 15 (h:=?_))))))))))))))))
       refine YR 16 (h:=fun K hK=>?_)
       refine Xk Zr K8 (.tmp 103) Zr (Qe p s (j:Int) (L.length:Int)) Zr Zr Zd ?_
       have mW:=Zh (rK.o.below (Z' FX.drew (.cells (Qe p s (j:Int) (L.length:Int)) 59)))
       refine Z_.Y_ hK _ _ ?_ (fun XC=>?_)
       ·(try dsimp only)
        first|exact Zz.o _ mW.o.st.Za mW.o.op|exact Zz.o _ rK.o.st.Za rK.o.op
       clear hK K
       try simp only [Z_.pt]
       refine YR 17 (h:=fun K hK=>?_)
       refine Zp Zr (.tmp 92) (.tmp 104) 39 Zr w.heap.size K8 (.slice la LS.length lc) OV.length (OV.flatMap ZY) Zr mW.o.st.QS (.slice (some ⟨FX.drew.heap.size,0,none⟩) 1 1) 1 ([(⟨p,s,(j:Int),(L.length:Int)⟩:Zq)].flatMap ZY) Zr (Yu _ _ 1 _ ([(⟨p,s,(j:Int),(L.length:Int)⟩:Zq)].flatMap ZY) Zd rfl) rfl (U' fun y _=>AH y) Zo Zo ?_ ?_
       ·exact mW.o.Zj.size
       intro v' w12 zt HG
       have NV:Hid (w12.ownsRow w 59 4 v' (OV++[(⟨p,s,(j:Int),(L.length:Int)⟩:Zq)]).length ((OV++[(⟨p,s,(j:Int),(L.length:Int)⟩:Zq)]).flatMap ZY)):=(by have h:=zt.o;rw [UM,O_];exact h)
       obtain ⟨da,dc,NZ,-⟩:=Row.Z6 NV.o
       subst NZ
       have Gg:=Zh (mW.o.Ad HG.o NV.o)
       have c3:w12.cell? ⟨k,3,none⟩=some (.slice la LS.length lc):=Zc Gg.o.st.Za 3 rfl
       have f3:w12.frozen? ⟨k,3,none⟩=false:=ZO Gg.o.st.Za 3
       refine Z_.Ye hK _ _ Zk ?_
       clear hK K
       try simp only [Z_.pt]
       refine YP 18 (h:=YP 19 (h:=?_))
       refine YR 20 (h:=fun K hK=>?_)
       go_simp
       refine Z_.Ye hK _ _ Zk ?_
       clear hK K
       try simp only [Z_.pt]
       refine Z_.Yr Zk ?_ _
       refine QY ?_
       have h8:=Gg.o.Hs 3 (.slice da (OV++[(⟨p,s,(j:Int),(L.length:Int)⟩:Zq)]).length dc)
       have rB:(OV++[(⟨p,s,(j:Int),(L.length:Int)⟩:Zq)]).length=OV.length+1:=by simp
       rw [rB] at h8
       have HFN:=Zh (mN.o _ _ h8)
       clear h8 rB
       go_wp2_with fail
       go_roundw
       case rel=>exact ⟨j+1,_,_,_,_,_,_,aS,Zo,Zn,rfl,by have h:=HFN.o;rw [mJ.o] at h;exact h⟩
       case measure=>simp [intOf];omega
  ·have MM:j=L.length:=by omega
   subst MM
   clear SP
   go_wp2
   go_ret
   exact ⟨_,_,vs,vc,av,ev,lv,E,T,R,ep,rfl,jz.o⟩
end Go.Proofs.By
