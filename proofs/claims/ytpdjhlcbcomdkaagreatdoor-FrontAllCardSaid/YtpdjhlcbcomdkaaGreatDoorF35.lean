/- Part of a proof. -/
import Derived.Test.YtpdjhlcbcomdkaaGreatDoorF33
import Derived.Test.YtpdjhlcbcomdkaaGreatDoorF34
set_option linter.unusedVariables false
set_option linter.unusedSimpArgs false
set_option maxRecDepth 100000
set_option maxHeartbeats 16000000
open Go Go.Q Go.Qr
namespace Go.Proofs.By
open Go.RowKit Go.Proofs.Heap Go.Proofs
open Go.Proofs.Rm (ZT ZU WJ Xi Inv WZ Room opens XF Zb ZL U2 VG F6 Ku YL Yw)
open Go.Proofs.N_ (Xe)
open Go.Proofs.Mem
theorem nP {w:World} {x:Ao} (h:JF w x):∀ u∈XD x,u.oneCell'=true:=by
 obtain ⟨⟨a1,c1,h1⟩,⟨a2,c2,h2⟩,⟨a3,c3,h3⟩⟩:=Vk.form h.p
 obtain ⟨a4,c4,h4⟩:=YV.form h.i
 obtain ⟨e,cv,ev,pv,iv⟩:=x
 dsimp only at h1 h2 h3 h4
 subst h1;subst h2;subst h3;subst h4
 intro u hu
 simp only [XD,RH,Uz,List.cons_append,KF,KG,List.mem_nil_iff,or_false] at hu
 rcases hu with rfl|rfl|rfl|rfl|rfl|rfl|rfl|rfl|rfl|rfl|rfl|rfl|rfl|rfl|rfl|rfl|rfl <;> rfl
structure MS (w w':World) (k b ob:Nat) (o7:Array Value) (cs:Array Value) (av:Value) (A:List Gg) (ev:Value) (E:List Ao) (lv:Value) (LS:List XJ) (T:ZU):Prop where
 st:Xj w.heap.size w' k cs av A ev E lv LS
 ref:ZT w' b T
 op:w'.heap[ob]?=some (.cells o7 32 (0,0))
 YI:Below w w w'
 kk:w.heap.size≤k
 bb:w.heap.size≤b
 oo:w.heap.size≤ob
section
variable {w w1 w2:World} {k b ob:Nat} {o7 cs:Array Value} {av:Value} {A:List Gg} {ev:Value} {E:List Ao} {lv:Value} {LS:List XJ} {T:ZU}
theorem MS.below (h:MS w w1 k b ob o7 cs av A ev E lv LS T) (hb:Below w1 w1 w2):MS w w2 k b ob o7 cs av A ev E lv LS T:=
 ⟨h.st.below hb,h.ref.below hb,(hb.block _ (ZQ h.op)).trans h.op,h.YI.trans (hb.mono h.YI.size),h.kk,h.bb,h.oo⟩
theorem MS.tN (h:MS w w1 k b ob o7 cs av A ev E lv LS T) (o:Nat) (u:Value):MS w (w1.setCell ⟨k,o,none⟩ u) k b ob o7 (cs.setIfInBounds o u) av A ev E lv LS T:=by
 have hf:Fr w1 (· = k) w1 (w1.setCell ⟨k,o,none⟩ u):=(Fr.refl _ _ _).setAt _ _
 have hoff:=Wl (ts:=[91,103,108,105,66]) h.st.Y8 Zd
 exact ⟨h.st.tN o u,Vg h.ref hf hoff,(hf.block _ (ZQ h.op) (fun e=>Wl (ts:=[32]) h.st.Y8 Zd _ Zi _ _ _ e h.op)).trans h.op,(Fr.setCell (p:=⟨k,o,none⟩) (Fr.Z9 Lm h.YI) (Wc h.kk) u).below,h.kk,h.bb,h.oo⟩
theorem MS.rH (h:MS w w1 k b ob o7 cs av A ev E lv LS T) (hg:w1.grownBy w2 av.ownBlock) {v':Value} {l':List Gg} (ho:w2.ownsRow w 35 4 v' l'.length (l'.flatMap QS)):MS w w2 k b ob o7 cs v' l' ev E lv LS T:=
 ⟨h.st.rH hg ho,Vg h.ref (WV hg) (Sh h.st.WH Zd),(hg.block _ (ZQ h.op) (fun e=>X4 h.st.WH Zd _ _ _ e.symm h.op)).trans h.op,((Fr.Z9 Lm h.YI).grown hg h.YI.size (Yw h.st.WH)).below,h.kk,h.bb,h.oo⟩
theorem MS.rJ (h:MS w w1 k b ob o7 cs av A ev E lv LS T) (hg:w1.grownBy w2 lv.ownBlock) {v':Value} {l':List XJ} (ho:w2.ownsRow w 59 4 v' l'.length (l'.flatMap Yi)):MS w w2 k b ob o7 cs av A ev E v' l' T:=
 ⟨h.st.rJ hg ho,Vg h.ref (WV hg) (Sh h.st.AE Zd),(hg.block _ (ZQ h.op) (fun e=>X4 h.st.AE Zd _ _ _ e.symm h.op)).trans h.op,((Fr.Z9 Lm h.YI).grown hg h.YI.size (Yw h.st.AE)).below,h.kk,h.bb,h.oo⟩
theorem MS.rI (h:MS w w1 k b ob o7 cs av A ev E lv LS T) (hg:w1.grownBy w2 ev.ownBlock) {v':Value} {x:Ao} (hx:JF w1 x) (ho:w2.ownsRow w 84 17 v' (E++[x]).length ((E++[x]).flatMap XD)):MS w w2 k b ob o7 cs av A v' (E++[x]) lv LS T:=
 ⟨h.st.rI hg hx ho,Vg h.ref (WV hg) (Sh h.st.Av Zd),(hg.block _ (ZQ h.op) (fun e=>X4 h.st.Av Zd _ _ _ e.symm h.op)).trans h.op,((Fr.Z9 Lm h.YI).grown hg h.YI.size (Yw h.st.Av)).below,h.kk,h.bb,h.oo⟩
theorem MS.j3 (h:MS w w1 k b ob o7 cs av A ev E lv LS T) (hf:Fr w1 (fun j=>lv.ownBlock=some j) w1 w2) {qH:List XJ} (ho:w2.ownsRow w 59 4 lv qH.length (qH.flatMap Yi)):MS w w2 k b ob o7 cs av A ev E lv qH T:=
 ⟨h.st.j3 hf (Sh h.st.AE Zd) ho,Vg h.ref hf (Sh h.st.AE Zd),(hf.block _ (ZQ h.op) (fun e=>X4 h.st.AE Zd _ _ _ e h.op)).trans h.op,h.YI.trans ((hf.mono h.YI.size (S':=Lm) (fun i hi hs=>by have:=Yw h.st.AE i hs;omega)).below),h.kk,h.bb,h.oo⟩
theorem MS.room (h:MS w w1 k b ob o7 cs av A ev E lv LS T) {T':ZU} {cs':Array Value} (hk:w2.heap[k]?=some (.cells cs' 44 (0,0))) (hr:ZT w2 b T') (hf:Fr w1 (fun j=>j=k∨j=b) w1 w2):MS w w2 k b ob o7 cs' av A ev E lv LS T':=by
 obtain ⟨_,_,_,hc,_⟩:=h.ref.Wh
 have h1:=Ek (Wl (ts:=32 :: N6.drop 1) h.st.Y8 Zd) (Wl hc Zd)
 exact ⟨h.st.frS hf (fun e he=>h1 e (List.mem_cons_of_mem _ he)) hk,hr,(hf.block _ (ZQ h.op) (fun e=>h1 _ (List.mem_cons_self ..) _ _ _ e h.op)).trans h.op,h.YI.trans ((hf.mono h.YI.size (S':=Lm) (fun i hi hs=>by have:=h.kk;have:=h.bb;omega)).below),h.kk,h.bb,h.oo⟩
end
structure SS (w w':World) (k b:Nat) (vs:Option Addr) (vc:Nat) (av ev lv:Value) (L:List QM) (j:Nat) (E:List Ao) (T:ZU) (R:Room) (ep:Int):Prop where
 st:Xj w.heap.size w' k (Qu vs L.length vc av ev lv (Xr L j).bad (Xr L j).YW (Xr L j).unknown (Xr L j).refused 0 0 0 0 (some ⟨b,0,none⟩)) av (Vl L j) ev E lv (S_ L L.length j)
 ref:ZT w' b T
 YI:Below w w w'
 kk:w.heap.size≤k
 bb:w.heap.size≤b
 Av:E.map (·.e)=Bg L j
 sim:Xi T R
 inv:Inv R
 Cs:WZ R
 bare:R.bare=(XB L j).1
 iH:ep=(XB L j).2
 li:LI L.length (opens R) (S_ L L.length j)
 Dg:(Xr L j).Below (8001*(j:Int))
 ops:Tz w' (.slice vs L.length vc) L
theorem SS.below {w w1 w2:World} {k b:Nat} {vs:Option Addr} {vc:Nat} {av ev lv:Value} {L:List QM} {j:Nat} {E:List Ao} {T:ZU} {R:Room} {ep:Int} (h:SS w w1 k b vs vc av ev lv L j E T R ep) (hb:Below w1 w1 w2):SS w w2 k b vs vc av ev lv L j E T R ep:=
 ⟨h.st.below hb,h.ref.below hb,h.YI.trans (hb.mono h.YI.size),h.kk,h.bb,h.Av,h.sim,h.inv,h.Cs,h.bare,h.iH,h.li,h.Dg,h.ops.below hb⟩
theorem uX (k b:Nat) (oa:Option Addr) (n oc:Nat) (av ev lv:Value) (c:UX) (T:ZU) (R:Room) (ep:Int) (o:Rm.Op) (sa ba:Option Addr) (sc bl bc:Nat) (bs:List UInt8) (sv:Value) (w:World)
  (PQ:w.heap[k]?=some (.cells (Qu oa n oc av ev lv c.bad c.YW c.unknown c.refused 0 0 0 0 (some ⟨b,0,none⟩)) 44 (0,0))) (hR:ZT w b T) (hs:Xi T R) (hI:Inv R) (hS:WZ R) (hT:Xe w) (Vz:o.name.length<9223372036854775807) (Nu:Yf w (.slice sa o.ZO.length sc) o.ZO.length (Zb o.ZO)) (Aw:Yn w (.slice ba bl bc) bs) (h0:0≤ep) (h9:ep<1000000000) (hc:c.Below 1000000000) :
  Calls Tryz.prog 42 (Q3 (some ⟨k,0,none⟩) (Ji o sa o.ZO.length sc ba bl bc) ep) w (UW k b oa n oc av ev lv c (take R ep o bs sv) w):=by
 by_cases h:o.kind=1
 ·exact qY k b oa n oc av ev lv c T R ep o sa ba o.ZO.length sc bl bc bs sv w PQ hR hs hI hS Aw h0 h9 hc h
 ·exact uY k b oa n oc av ev lv c T R ep o sa ba sc bl bc bs sv w PQ hR hs hI hT Vz Nu h0 h9 hc h
theorem nb (v:Value) (L:List QM) (w:World) (hT:Xe w) (h:Tz w v L) (hL:L.length≤256) :
  Calls Tryz.prog 17 #[v] w fun e w'=>∃ k b vs vc av ev lv E T R ep,e = .returned (.pointer (some ⟨k,0,none⟩))∧SS w w' k b vs vc av ev lv L L.length E T R ep:=by
 obtain ⟨va,vc,rfl,hvc,vF⟩:=h.form
 have hKm:min (L.length:Int) 256=(L.length:Int):=by omega
 obtain ⟨vs,U4,-,BB⟩:=RM (P:=Tryz.prog) rD va L.length vc L.length Zo
 have HO:Hid (Tz w (.slice vs L.length vc) L):=by
  have h2:=h.take (ZB _) BB
  rwa [qX] at h2
 have HT:Hid (∀ w',Below w w w'→Xe w'):=fun w' h=>Utf8Tabs_below hT h
 clear h BB hT
 go_enter Tryz.func17,Tryz.ntmps17
 go_upto_region 2 with fail
 have pS:=Wm w (Qp none 0 0 none 0 0 none 0 0) (Jb vs L.length vc none 0 0 none 0 0 none 0 0 0 0 0 0 0 0 0 0 (some ⟨w,0,none⟩)) 91 44
 have OH:Hid (Below w w ((w.alloc (.cells (Qp none 0 0 none 0 0 none 0 0) 91)).alloc (.cells (Jb vs L.length vc none 0 0 none 0 0 none 0 0 0 0 0 0 0 0 0 0 (some ⟨w,0,none⟩)) 44))):=ZA (Z' w _) (ZB _) _
 obtain ⟨TJ,SG,fD⟩:=pS
 have k0:((w.alloc (.cells (Qp none 0 0 none 0 0 none 0 0) 91)).alloc (.cells (Jb vs L.length vc none 0 0 none 0 0 none 0 0 0 0 0 0 0 0 0 0 (some ⟨w,0,none⟩)) 44)).cell? ⟨w.heap.size+1,0,none⟩=some (.slice vs L.length vc):=Zc SG 0 rfl
 have EY:Hid (SS w ((w.alloc (.cells (Qp none 0 0 none 0 0 none 0 0) 91)).alloc (.cells (Jb vs L.length vc none 0 0 none 0 0 none 0 0 0 0 0 0 0 0 0 0 (some ⟨w,0,none⟩)) 44)) (w.heap.size+1) w.heap.size vs vc (.slice none 0 0) (.slice none 0 0) (.slice none 0 0) L 0 [] ⟨[],[],[]⟩ Rm.empty 0):=
  ⟨⟨SG,Us _ _ _ _,Us _ _ _ _,fun _ h=>(by cases h),Us _ _ _ _⟩,⟨_,_,_,TJ,Row.nil _ _,⟨[],rfl,Row.nil _ _,fun _ h=>(by cases h)⟩,Row.nil _ _⟩,OH.o,JK _,ZB _,rfl,F6,U2,VG,rfl,rfl,by rw [Ku];exact LI.nil _,(show M0.Below (8001*((0:Nat):Int)) from ⟨by decide,by decide,by decide,by decide⟩),HO.o.below OH.o⟩
 clear TJ SG fD
 generalize ((w.alloc (.cells (Qp none 0 0 none 0 0 none 0 0) 91)).alloc (.cells (Jb vs L.length vc none 0 0 none 0 0 none 0 0 0 0 0 0 0 0 0 0 (some ⟨w,0,none⟩)) 44))=w0 at *
 go_wp2_with fail
 go_loopw [4,25] (fun s4 s25 w'=>∃ (j:Nat) (av ev lv:Value) (E:List Ao) (T:ZU) (R:Room) (ep:Int),j≤L.length∧s25 = .int .i64 (j:Int)∧s4 = .int .i64 ep∧SS w w' (w.heap.size+1) w.heap.size vs vc av ev lv L j E T R ep) (fun _ s25 _=>L.length-(intOf s25).toNat)
 case atStart=>exact ⟨0,_,_,_,_,_,_,_,Zo,rfl,rfl,EY.o⟩
 case round=>
  obtain ⟨j,av,ev,lv,E,T,R,ep,hj,rfl,rfl,Tk⟩:=hrel
  have JY:=Zh Tk
  clear EY k0
  by_cases Oh:j<L.length
  ·obtain ⟨aa,ac,hav⟩:=Row.form (Row.ZV Tk.st.WH)
   obtain ⟨ea,ec,jb⟩:=Row.form (Row.ZV Tk.st.Av)
   obtain ⟨la,lc,hlv⟩:=Row.form (Row.ZV Tk.st.AE)
   subst hav;subst jb;subst hlv
   have hhk:=Tk.kk
   have hhb:=Tk.bb
   have hKB:(w.heap.size+1)≠w.heap.size:=by omega
   generalize w.heap.size+1=k at *
   obtain ⟨b,b_⟩:∃ b,b=w.heap.size:=⟨_,rfl⟩
   have wR:=Zh b_
   clear b_
   have eH:Hid (SS w wr k b vs vc (.slice aa (Vl L j).length ac) (.slice ea E.length ec) (.slice la (S_ L L.length j).length lc) L j E T R ep):=by rw [wR.o];exact Tk
   obtain ⟨g',off',cap',e1,-,-,-,UO⟩:=Rm.xZ (fun y:QM=>XF y.x) 7 (fun _=>rfl) Zo Tk.ops.row Zo
   cases e1
   have hy:L[j]?=some L[j]:=VQ Oh
   have UO:=UO j _ hy
   have cx:=HO.o.each L[j] (Pw Oh)
   have yz:=Zh (fun sv=>Ci hy Tk.bare Tk.iH sv)
   have ud:Hid (nO L j=vp L[j].x.o L[j].b):=by show _=_;unfold nO;rw [hy]
   have iV:=K4 L j
   rw [←Tk.iH] at iV
   have ky:=Zh (fun (T':ZU) (sv:Value) (h':Xi T' (take R ep L[j].x.o L[j].b sv).1.2)=>zt (n:=L.length) (at':=j) Zo Tk.inv Tk.Cs Tk.sim ep L[j].x.o L[j].b sv h' Tk.li)
   have OB:=Zh (fun sv=>EF Tk.inv Tk.Cs ep L[j].x.o L[j].b sv)
   have HEP:=Zh (F5 Oh)
   have hEb:E.length≤256:=by have h2:=congrArg List.length Tk.Av;rw [UM] at h2;rw [h2];unfold Bg;rw [UM,List.length_range];omega
   have fU:Hid (Xr L (j+1)=(Xr L j).add (YH L j).WH.kind (YH L j).unknown):=rfl
   have HCB:=Zh Tk.Dg
   have HAS:=Zh (A3 L j)
   have HES:=Zh (yP L j)
   have HEE:=Zh Tk.Av
   have HLS:Hid (S_ L L.length (j+1)=Wk L.length j (S_ L L.length j) (YH L j).turns):=rfl
   have hlen:=Kr L L.length j
   have hal:(Vl L j).length≤256:=by rw [MG];omega
   have hcb:(Xr L j).Below 1000000000:=by
    obtain ⟨⟨a1,a2⟩,⟨b1,b2⟩,⟨c1,c2⟩,⟨d1,d2⟩⟩:=Tk.Dg
    exact ⟨⟨a1,Zo⟩,⟨b1,Zo⟩,⟨c1,Zo⟩,⟨d1,Zo⟩⟩
   have OJ:=Zh Tk.sim
   have EPS:=Zh Tk.iH
   have uK:=Zh eH.o.st
   have UK:=Zh eH.o.ref
   have QJ:=Zh eH.o.YI
   have mS:=Zh eH.o.kk
   have HQ4:=Zh eH.o.bb
   have gg:=Zh Tk.inv
   have HSLM:=Zh Tk.Cs
   clear hy
   generalize L[j]=y at *
   generalize S_ L L.length j=LS at *
   generalize Vl L j=A at *
   generalize Xr L j=c at *
   obtain ⟨⟨⟨kd,p,s,q,nm,ss⟩,sa,sc,ba,bl,bc⟩,bs⟩:=y
   dsimp only at cx yz ud ky OB
   obtain ⟨Nu,Aw,Vz⟩:=cx
   have xN:wr.rangeAt g' (off'+j*7) (Qa kd p s q (str nm) sa ss.length sc ba bl bc):=fun m v hm=>(UO m (by have h:=(List.getElem?_eq_some_iff.1 hm).1;simpa using h)).trans hm
   have fk:(j:Int)<(L.length:Int):=Gs.2 Oh
   have hz:=Z5 wr (.cells (Qa 0 0 0 0 ⟨#[]⟩ none 0 0 none 0 0) 32)
   have OG:=setRow_heap _ _ _ (Qa kd p s q (str nm) sa ss.length sc ba bl bc) _ _ hz
   have Wy:Hid (Below wr wr ((wr.alloc (.cells (Qa 0 0 0 0 ⟨#[]⟩ none 0 0 none 0 0) 32)).setRow wr.heap.size (Qa kd p s q (str nm) sa ss.length sc ba bl bc))):=Z0 (Z' wr _) (ZB _) _
   have kz:Hid (MS w ((wr.alloc (.cells (Qa 0 0 0 0 ⟨#[]⟩ none 0 0 none 0 0) 32)).setRow wr.heap.size (Qa kd p s q (str nm) sa ss.length sc ba bl bc)) k b wr.heap.size (Qa kd p s q (str nm) sa ss.length sc ba bl bc) (Qu (some ⟨g',off',none⟩) L.length vc (.slice aa A.length ac) (.slice ea E.length ec) (.slice la LS.length lc) c.bad c.YW c.unknown c.refused 0 0 0 0 (some ⟨b,0,none⟩)) (.slice aa A.length ac) A (.slice ea E.length ec) E (.slice la LS.length lc) LS T):=⟨uK.o.below Wy.o,UK.o.below Wy.o,OG,QJ.o.trans (Wy.o.mono QJ.o.size),mS.o,HQ4.o,QJ.o.size⟩
   clear UO Tk eH JY Wy uK UK QJ mS HQ4
   go_upto_region 6 with (first|(with_reducible refine Yp 32 (.tmp 28) rfl ?_;refine Zm xN Tryz.underlying32 ?_)|(with_reducible refine ZY 32 (.tmp 6) (.tmp 29) rfl ?_;refine Zs hz ?_))
   clear hz xN OG
   generalize ((wr.alloc (.cells (Qa 0 0 0 0 ⟨#[]⟩ none 0 0 none 0 0) 32)).setRow wr.heap.size (Qa kd p s q (str nm) sa ss.length sc ba bl bc))=w1 at *
   generalize wr.heap.size=ob at *
   have o6:w1.cell? ⟨ob,6,none⟩=some (.slice ba bl bc):=Zc kz.o.op 6 rfl
   have CS:=Zh (FX _ bs w1 (Yf.below Aw kz.o.YI))
   have mK:Hid (vp ⟨kd,p,s,q,nm,ss⟩ bs=if kd=1 then (X0 bs).1 else .none):=rfl
   generalize X0 bs=SB at *
   obtain ⟨D,er⟩:=SB
   dsimp only at CS mK
   go_upto_if 38 with (go_at_call 41;refine CS.o.mono ?_;rintro e w2 ⟨⟨a,rfl,Ed⟩,Y0⟩;obtain ⟨cv,xv,pv,iv,rfl,JO⟩:=A0.form Ed;obtain ⟨⟨ca,cc,Di⟩,⟨lC,lD,dL⟩,⟨pa,pc,NR⟩⟩:=Vk.form JO.p;obtain ⟨ia,ic,yV⟩:=YV.form JO.i;dsimp only at Di dL NR yV;subst Di;subst dL;subst NR;subst yV;dsimp only [XD,RH,Uz,List.cons_append,KF];have HRR:=Zh JO;have XA:=Zh Y0;have jy:=(Y0.block _ (ZQ kz.o.op)).trans kz.o.op;have cZ:=((Z' w2 (.cells (Jl D.kd D.pk ca cc lC lD pa pc D.ds ia D.il.length ic) 84)).block _ (ZQ jy)).trans jy;have o0:(w2.alloc (.cells (Jl D.kd D.pk ca cc lC lD pa pc D.ds ia D.il.length ic) 84)).cell? ⟨ob,0,none⟩=some (.int .i64 kd):=(Zc cZ 0 rfl);clear Ed JO Y0 jy cZ)
   have MA:=Z5 w2 (.cells (Jl D.kd D.pk ca cc lC lD pa pc D.ds ia D.il.length ic) 84)
   have Ur:Hid (Below w1 w1 (w2.alloc (.cells (Jl D.kd D.pk ca cc lC lD pa pc D.ds ia D.il.length ic) 84))):=ZA XA.o (ZB _) _
   have HM4:=Zh (kz.o.below Ur.o)
   have QI:Hid (Below w1 w1 ((w2.alloc (.cells (Jl D.kd D.pk ca cc lC lD pa pc D.ds ia D.il.length ic) 84)).setRow w2.heap.size (Qh 0 false 0 0 0 0 none 0 0 false 0 none 0 0 none 0 0 0 0 false false 0 none 0 0))):=Z0 Ur.o XA.o.size _
   have HM5:=Zh (kz.o.below QI.o)
   have gI:=Zh (HRR.o.below (Z' w2 (.cells (Jl D.kd D.pk ca cc lC lD pa pc D.ds ia D.il.length ic) 84)))
   have hNE:∀ g,(Value.slice ea E.length ec).ownBlock=some g→g≠w2.heap.size:=fun g hg=>by
    obtain ⟨cur,hc⟩:=L8 kz.o.st.Av g hg
    have h1:=ZQ hc
    have h2:=XA.o.size
    omega
   have hobe:ob≠w2.heap.size:=by have h1:=ZQ kz.o.op;have h2:=XA.o.size;omega
   clear CS XA HRR Ur QI o6
   generalize hW4:(w2.alloc (.cells (Jl D.kd D.pk ca cc lC lD pa pc D.ds ia D.il.length ic) 84))=w4 at *
   generalize w2.heap.size=eb at *
   clear hW4
   go_cut [] (fun wx=>∃ x:Ao,x.e=vp ⟨kd,p,s,q,nm,ss⟩ bs∧JF wx x∧wx.heap[eb]?=some (.cells (XD x).toArray 84 (0,0))∧MS w wx k b ob (Qa kd p s q (str nm) sa ss.length sc ba bl bc) (Qu (some ⟨g',off',none⟩) L.length vc (.slice aa A.length ac) (.slice ea E.length ec) (.slice la LS.length lc) c.bad c.YW c.unknown c.refused 0 0 0 0 (some ⟨b,0,none⟩)) (.slice aa A.length ac) A (.slice ea E.length ec) E (.slice la LS.length lc) LS T)
   case first=>
    by_cases hk:kd=1
    ·have e1:(kd != 1)=false:=by rw [hk];rfl
     have hx:(⟨D,.slice ca D.pk.Sa.length cc,.slice lC D.pk.ext.length lD,.slice pa D.pk.Zp.length pc,.slice ia D.il.length ic⟩:Ao).e=vp ⟨kd,p,s,q,nm,ss⟩ bs:=by rw [mK.o];exact (ZX hk).symm
     have HHX:=Zh hx
     have pJ:=Zh MA
     clear hx hk MA
     go_wp2_with fail
     go_meet
     exact ⟨_,HHX.o,gI.o,pJ.o,HM4.o⟩
    ·have e1:(kd != 1)=true:=by rw [TF];exact hk
     have hx:(Ev.none)=vp ⟨kd,p,s,q,nm,ss⟩ bs:=by rw [mK.o];exact (Z6 hk).symm
     have HHX:=Zh hx
     clear hx hk
     go_wp2_with (first|(with_reducible refine ZY 84 (.tmp 7) (.tmp 39) rfl ?_;refine Zs MA ?_))
     go_meet
     exact ⟨⟨.none,.slice none 0 0,.slice none 0 0,.slice none 0 0,.slice none 0 0⟩,HHX.o,⟨Vk.nil _,YV.nil _⟩,setRow_heap _ _ _ _ _ _ MA,HM5.o⟩
   case rest=>
    obtain ⟨w5,rfl⟩:∃ W:World,W=wc:=⟨_,rfl⟩
    obtain ⟨x,hxe,oY,FB,Vd⟩:=hcut
    have HXE:=Zh hxe
    have HXR5:=Zh oY
    have HM5b:=Zh Vd
    clear HM4 HM5 gI MA o0 hxe mK
    go_upto_region 9 with fail
    go_cut [] (fun wx=>∃ (na:Option Addr) (nc:Nat),MS w wx k b ob (Qa kd p s q (str nm) sa ss.length sc ba bl bc) (Qu (some ⟨g',off',none⟩) L.length vc (.slice aa A.length ac) (.slice na (E.length+1) nc) (.slice la LS.length lc) c.bad c.YW c.unknown c.refused 0 0 0 0 (some ⟨b,0,none⟩)) (.slice aa A.length ac) A (.slice na (E.length+1) nc) (E++[x]) (.slice la LS.length lc) LS T)
    case first=>
     have uG:=Zh (Vd.below (YG _ _).drew)
     have Eg:=((YG w5.heap.size w5).drew.block _ (ZQ FB)).trans FB
     have HXRd:=Zh (oY.below (YG _ _).drew)
     have ZC:Hid (∀ w':World,w'.heap[k]?=some (.cells (Qu (some ⟨g',off',none⟩) L.length vc (.slice aa A.length ac) (.slice ea E.length ec) (.slice la LS.length lc) c.bad c.YW c.unknown c.refused 0 0 0 0 (some ⟨b,0,none⟩)) 44 (0,0))→w'.heap[eb]?=some (.cells (XD x).toArray 84 (0,0))→w'.cell? ⟨k,2,none⟩=some (.slice ea E.length ec)∧w'.heap[eb]?=some (.cells (XD x).toArray 84 (0,0))):=fun w' h1 h2=>⟨Zc h1 2 rfl,h2⟩
     clear Vd oY
     refine QN ?_
     refine Z3.Yq (d:=7) (S:=(fun w'=>w'.cell? ⟨k,2,none⟩=some (.slice ea E.length ec)∧w'.heap[eb]?=some (.cells (XD x).toArray 84 (0,0)))) Zk ?_ (fun Yb=>?_)
     ·(try dsimp only)
      exact ZC.o _ uG.o.st.Y8 Eg
     refine YP 0 (h:=YP 1 (h:=YP 2 (h:=YP 3 (h:=YK 4 (h:=?_)))))
     refine Z3.tk 5 ?_ rfl ?_ <| ?_
     rotate_left
     ·intro wS QW;(try dsimp only at QW)
      refine Vp 84 (.tmp 7) ?_ eb ?_ 84 (XD x).toArray (0,0) _ QW.2 Tryz.underlying84 rfl Zk
      all_goals rfl
     try simp only [Z3.pt]
     refine YR 6 (h:=fun K hK=>?_)
     refine Va Zr rC (.tmp 45) Zr (XD x).toArray Zr Zr Zd ?_
     have mP:=Zh (uG.o.below (Z' w5.drew (.cells (XD x).toArray 84)))
     have HXR6:=Zh (HXRd.o.below (Z' w5.drew (.cells (XD x).toArray 84)))
     have sK:=((Z' w5.drew (.cells (XD x).toArray 84)).block _ (ZQ Eg)).trans Eg
     refine Z3.Xl hK _ _ ?_ (fun XX=>?_)
     ·(try dsimp only)
      first|exact ZC.o _ mP.o.st.Y8 sK|exact ZC.o _ uG.o.st.Y8 Eg
     clear hK K
     try simp only [Z3.pt]
     refine YR 7 (h:=fun K hK=>?_)
     refine Zw Zr (.tmp 44) (.tmp 46) 38 Zr w.heap.size rC (.slice ea E.length ec) E.length (E.flatMap XD) Zr mP.o.st.Av (.slice (some ⟨w5.drew.heap.size,0,none⟩) 1 1) 1 ([x].flatMap XD) Zr (YL _ _ 1 _ ([x].flatMap XD) Zd rfl) rfl (TV (l:=[x]) fun y hy=>by rw [I9.1 hy];exact nP HXRd.o) Zo Zo ?_ ?_
     ·exact mP.o.YI.size
     intro v' w6 qo HG
     have Mv:Hid (w6.ownsRow w 84 17 v' (E++[x]).length ((E++[x]).flatMap XD)):=(by have h:=qo.o;rw [SP,QL];exact h)
     obtain ⟨na,nc,Ig,-⟩:=Row.ZV Mv.o
     subst Ig
     have AQ:=Zh (mP.o.rI HG.o HXR6.o Mv.o)
     have c2:w6.cell? ⟨k,2,none⟩=some (.slice ea E.length ec):=Zc AQ.o.st.Y8 2 rfl
     have f2:w6.frozen? ⟨k,2,none⟩=false:=ZI AQ.o.st.Y8 2
     refine Z3.WO hK _ _ Zk ?_
     clear hK K
     try simp only [Z3.pt]
     refine YP 8 (h:=YP 9 (h:=?_))
     refine YR 10 (h:=fun K hK=>?_)
     go_simp
     refine Z3.WO hK _ _ Zk ?_
     clear hK K
     try simp only [Z3.pt]
     refine Z3.Xz Zk ?_ _
     refine Py ?_
     have h8:=AQ.o.tN 2 (.slice na (E++[x]).length nc)
     have pQ:(E++[x]).length=E.length+1:=by simp
     rw [pQ] at h8
     have HM8:=Zh h8
     clear h8
     go_wp2_with fail
     go_meet
     exact ⟨na,nc,HM8.o⟩
    case rest=>
     obtain ⟨w6,rfl⟩:∃ W:World,W=wc:=⟨_,rfl⟩
     obtain ⟨na,nc,GH⟩:=hcut
     have mP:=Zh GH
     clear HM5b HXR5 Vd oY FB hNE hobe
     obtain ⟨pv,sv,uv,mi,X_⟩:=GH.ref.Wh
     obtain ⟨ua,uc,huv⟩:=Row.form X_.Z8
     subst huv
     have HWAS:=Zh X_.Z8
     have b2:w6.cell? ⟨b,2,none⟩=some (.slice ua T.Z8.length uc):=Zc mi 2 rfl
     have k12:w6.cell? ⟨k,12,none⟩=some (.pointer (some ⟨b,0,none⟩)):=Zc GH.st.Y8 12 rfl
     have df:=GH.op
     have CA:=Zh (uX k b (some ⟨g',off',none⟩) L.length vc (.slice aa A.length ac) (.slice na (E.length+1) nc) (.slice la LS.length lc) c T R ep ⟨kd,p,s,q,nm,ss⟩ sa ba sc bl bc bs (.slice none 0 0) w6 GH.st.Y8 GH.ref OJ.o gg.o HSLM.o (HT.o _ GH.YI) Vz (Nu.below GH.YI) (Yf.below Aw GH.YI) iV.1 Zo hcb)
     obtain ⟨dE,jH,jI⟩:=yz.o (.slice none 0 0)
     have gh:=Zh (fun T' h=>ky.o T' (.slice none 0 0) h)
     have qp:=Zh (OB.o (.slice none 0 0))
     have jO:=Ky L j
     clear mi X_ GH yz ky OB
     generalize take R ep ⟨kd,p,s,q,nm,ss⟩ bs (.slice none 0 0)=X at *
     obtain ⟨⟨tk,R2⟩,eU⟩:=X
     dsimp only at dE jH jI gh qp
     subst dE
     generalize YH L j=tk at *
     have HST2:=Zh jH
     have gB:=Zh jI
     have Dt:=Zh iV
     clear jH jI
     unfold UW at CA
     dsimp only at CA
     have Sv:tk.WH=⟨tk.WH.kind,tk.WH.source,tk.WH.SQ,tk.WH.err⟩:=rfl
     have Pv:=Zh Sv
     clear Sv
     generalize tk.WH.kind=ak at *
     generalize tk.WH.source=as' at *
     generalize tk.WH.SQ=ae at *
     generalize tk.WH.err=ar at *
     generalize tk.unknown=tu at *
     go_upto_if 63 with (first|(with_reducible refine Yp 32 (.tmp 6) rfl ?_;refine Zl df Tryz.underlying32 ?_)|(go_at_call 42;refine CA.o.mono ?_;rintro e w7 ⟨rfl,Fs,⟨T2,oM,jG⟩,oF⟩;have AQ:=Zh (mP.o.room Fs oM oF);have HS7:=Zh jG;have a0:(w7.alloc (.cells (Qe ak as' ae ar) 35)).cell? ⟨w7,0,none⟩=some (.int .i64 ak):=(by rw [cell_of (Z5 w7 (.cells (Qe ak as' ae ar) 35)) 0];rfl);have HW7:=Zh (Row.fr HWAS.o oF (ZB _) (Ek (Wl (ts:=[105]) mP.o.st.Y8 Zd) (fun e he j' c' fr' cI MP=>by obtain ⟨_,_,_,mi,_⟩:=mP.o.ref.Wh;exact Wl (ts:=[105]) mi Zd e he j' c' fr' cI MP) _ (I9.2 rfl)));clear Fs oM jG oF))
     clear CA mP HWAS df b2 k12
     have Od:=Z5 w7 (.cells (Qe ak as' ae ar) 35)
     have HM8:=Zh (AQ.o.below (Z' w7 (.cells (Qe ak as' ae ar) 35)))
     have HW8:=Zh (Row.below HW7.o (Z' w7 (.cells (Qe ak as' ae ar) 35)))
     have hNA:∀ g,(Value.slice aa A.length ac).ownBlock=some g→g≠w7.heap.size:=fun g hg=>by
      obtain ⟨cur,hc⟩:=L8 AQ.o.st.WH g hg
      have h1:=ZQ hc
      omega
     clear AQ HW7
     generalize hW8:(w7.alloc (.cells (Qe ak as' ae ar) 35))=w8 at *
     generalize w7.heap.size=ab at *
     clear hW8
     obtain ⟨cV,cW⟩:=gh.o T2 HS7.o
     have HLV3:=Zh cV
     have HLI3:=Zh cW
     clear cV cW gh
     go_cut [4] (fun s4 wx=>s4 = .int .i64 eU∧wx=w8)
     case first=>
      rcases HEP.o with ⟨h2,-,h3⟩|⟨h2,h3,-⟩
      ·have e1:(ak == 2)=true:=by rw [beq_iff_eq];exact h2
       have e2:eU=ep+1:=by rw [gB.o,h3,EPS.o]
       clear h2 h3
       go_wp2_with fail
       go_meet
       exact ⟨by rw [e2],rfl⟩
      ·have e1:(ak == 2)=false:=by rw [WT];exact h2
       have e2:eU=ep:=by rw [gB.o,h3,EPS.o]
       clear h2 h3
       go_wp2_with fail
       go_meet
       exact ⟨by rw [e2],rfl⟩
     case rest=>
      obtain ⟨rfl,hcw⟩:=hcut
      replace hcw:=hcw.symm
      subst hcw
      go_upto_region 14 with fail
      have HAB:=Zh Od
      go_cut [] (fun wx=>∃ (ma:Option Addr) (mc:Nat),MS w wx k b ob (Qa kd p s q (str nm) sa ss.length sc ba bl bc) (Qu (some ⟨g',off',none⟩) L.length vc (.slice ma (A.length+1) mc) (.slice na (E.length+1) nc) (.slice la LS.length lc) (c.add ak tu).bad (c.add ak tu).YW (c.add ak tu).unknown (c.add ak tu).refused 0 0 0 0 (some ⟨b,0,none⟩)) (.slice ma (A.length+1) mc) (A++[⟨ak,as',ae,ar⟩]) (.slice na (E.length+1) nc) (E++[x]) (.slice la LS.length lc) LS T2∧wx.heap[ab]?=some (.cells (Qe ak as' ae ar) 35 (0,0))∧Row wx 105 (.slice ua T.Z8.length uc) T.Z8.length (T.Z8.flatMap ZL))
      case first=>
       have uG:=Zh (HM8.o.below (YG _ _).drew)
       have Eg:=((YG w8.heap.size w8).drew.block _ (ZQ Od)).trans Od
       have HWd:=Zh (Row.below HW8.o (YG w8.heap.size w8).drew)
       have ZC:Hid (∀ w':World,w'.heap[k]?=some (.cells (Qu (some ⟨g',off',none⟩) L.length vc (.slice aa A.length ac) (.slice na (E.length+1) nc) (.slice la LS.length lc) (c.add ak tu).bad (c.add ak tu).YW (c.add ak tu).unknown (c.add ak tu).refused 0 0 0 0 (some ⟨b,0,none⟩)) 44 (0,0))→w'.heap[ab]?=some (.cells (Qe ak as' ae ar) 35 (0,0))→w'.cell? ⟨k,1,none⟩=some (.slice aa A.length ac)∧w'.heap[ab]?=some (.cells (Qe ak as' ae ar) 35 (0,0))):=fun w' h1 h2=>⟨Zc h1 1 rfl,h2⟩
       clear Od
       refine QN ?_
       refine Z3.Yq (d:=7) (S:=(fun w'=>w'.cell? ⟨k,1,none⟩=some (.slice aa A.length ac)∧w'.heap[ab]?=some (.cells (Qe ak as' ae ar) 35 (0,0)))) Zk ?_ (fun Yb=>?_)
       ·(try dsimp only)
        exact ZC.o _ uG.o.st.Y8 Eg
       refine YP 0 (h:=YP 1 (h:=YP 2 (h:=YP 3 (h:=YK 4 (h:=?_)))))
       refine Z3.tk 5 ?_ rfl ?_ <| ?_
       rotate_left
       ·intro wS QW;(try dsimp only at QW)
        refine Vp 35 (.tmp 10) ?_ ab ?_ 35 (Qe ak as' ae ar) (0,0) _ QW.2 Tryz.underlying35 rfl Zk
        all_goals rfl
       try simp only [Z3.pt]
       refine YR 6 (h:=fun K hK=>?_)
       refine Va Zr xu (.tmp 71) Zr (Qe ak as' ae ar) Zr Zr Zd ?_
       have qi:=Zh (uG.o.below (Z' w8.drew (.cells (Qe ak as' ae ar) 35)))
       have sK:=((Z' w8.drew (.cells (Qe ak as' ae ar) 35)).block _ (ZQ Eg)).trans Eg
       have HWs:=Zh (Row.below HWd.o (Z' w8.drew (.cells (Qe ak as' ae ar) 35)))
       refine Z3.Xl hK _ _ ?_ (fun XX=>?_)
       ·(try dsimp only)
        first|exact ZC.o _ qi.o.st.Y8 sK|exact ZC.o _ uG.o.st.Y8 Eg
       clear hK K
       try simp only [Z3.pt]
       refine YR 7 (h:=fun K hK=>?_)
       refine Zw Zr (.tmp 70) (.tmp 72) 37 Zr w.heap.size xu (.slice aa A.length ac) A.length (A.flatMap QS) Zr qi.o.st.WH (.slice (some ⟨w8.drew.heap.size,0,none⟩) 1 1) 1 ([(⟨ak,as',ae,ar⟩:Gg)].flatMap QS) Zr (YL _ _ 1 _ ([(⟨ak,as',ae,ar⟩:Gg)].flatMap QS) Zd rfl) rfl (TV fun y _=>nH y) Zo Zo ?_ ?_
       ·exact qi.o.YI.size
       intro v' w9 qo HG
       have Mv:Hid (w9.ownsRow w 35 4 v' (A++[(⟨ak,as',ae,ar⟩:Gg)]).length ((A++[(⟨ak,as',ae,ar⟩:Gg)]).flatMap QS)):=(by have h:=qo.o;rw [SP,QL];exact h)
       obtain ⟨ma,mc,Ig,-⟩:=Row.ZV Mv.o
       subst Ig
       have AQ:=Zh (qi.o.rH HG.o Mv.o)
       have c1:w9.cell? ⟨k,1,none⟩=some (.slice aa A.length ac):=Zc AQ.o.st.Y8 1 rfl
       have f1:w9.frozen? ⟨k,1,none⟩=false:=ZI AQ.o.st.Y8 1
       have HAB9:=Zh ((HG.o.block _ (ZQ sK) (fun e=>hNA _ e.symm rfl)).trans sK)
       have HW9:=Zh (Row.fr HWs.o (WV HG.o) (ZB _) (X4 qi.o.st.WH Zd))
       refine Z3.WO hK _ _ Zk ?_
       clear hK K
       try simp only [Z3.pt]
       refine YP 8 (h:=YP 9 (h:=?_))
       refine YR 10 (h:=fun K hK=>?_)
       go_simp
       refine Z3.WO hK _ _ Zk ?_
       clear hK K
       try simp only [Z3.pt]
       refine Z3.Xz Zk ?_ _
       refine Py ?_
       have h8:=AQ.o.tN 1 (.slice ma (A++[(⟨ak,as',ae,ar⟩:Gg)]).length mc)
       have pQ:(A++[(⟨ak,as',ae,ar⟩:Gg)]).length=A.length+1:=by simp
       rw [pQ] at h8
       have HM9:=Zh h8
       have hkab:ab≠k:=fun e=>by have h1:=AQ.o.st.Y8;rw [←e,HAB9.o] at h1;injection h1 with h1;injection h1 with _ h1;exact absurd h1 Zd
       have HAB10:=Zh ((Hk w9 ⟨k,1,none⟩ (.slice ma (A.length+1) mc) ab hkab).trans HAB9.o)
       have HW10:=Zh (Row.fr HW9.o (Fr.setAt (Fr.refl w9.heap.size (· = k) w9) 1 (.slice ma (A.length+1) mc)) (ZB _) (Wl (ts:=[105]) AQ.o.st.Y8 Zd _ (I9.2 rfl)))
       clear h8
       go_wp2_with fail
       go_meet
       exact ⟨ma,mc,HM9.o,HAB10.o,HW10.o⟩
      case rest=>
       obtain ⟨tY,rfl⟩:∃ W:World,W=wc:=⟨_,rfl⟩
       obtain ⟨ma,mc,Fu,xE,dJ⟩:=hcut
       have HM10:=Zh Fu
       have CO:=Zh (tq w.heap.size k b (some ⟨g',off',none⟩) L.length vc (.slice ma (A.length+1) mc) (.slice na (E.length+1) nc) (.slice la LS.length lc) (.slice ua T.Z8.length uc) _ _ _ _ LS T2 T.Z8 (j:Int) tY Fu.st.Y8 Fu.ref Fu.st.AE dJ)
       clear HM8 HW8 Od HAB hNA dJ
       go_upto_region 16 with (go_at_call 43;refine CO.o.mono ?_;rintro e wO ⟨rfl,cY,jf⟩;have gi:=Zh (HM10.o.j3 jf cY);have bX:=(jf.block _ (ZQ xE) (fun e=>X4 Fu.st.AE Zd _ _ _ e xE)).trans xE;clear cY jf)
       clear CO HM10 Fu xE
       have a0b:wO.cell? ⟨ab,0,none⟩=some (.int .i64 ak):=Zc bX 0 rfl
       have df:=gi.o.op
       have o0:wO.cell? ⟨ob,0,none⟩=some (.int .i64 kd):=Zc df 0 rfl
       have ui:Hid (UB L.length j T T2 ak ⟨kd,p,s,q,nm,ss⟩ LS=Sw L.length j T2 T.Z8 LS++if ak=2∧kd=6 then [⟨p,s,j,L.length⟩] else []):=rfl
       have HOL:=Zh (NS L.length j T2 T.Z8 LS)
       have p9:Hid (∀ (w':World) (j0:Value),MS w w' k b ob (Qa kd p s q (str nm) sa ss.length sc ba bl bc) (Qu (some ⟨g',off',none⟩) L.length vc (.slice ma (A.length+1) mc) (.slice na (E.length+1) nc) j0 (c.add ak tu).bad (c.add ak tu).YW (c.add ak tu).unknown (c.add ak tu).refused 0 0 0 0 (some ⟨b,0,none⟩)) (.slice ma (A.length+1) mc) (A++[⟨ak,as',ae,ar⟩]) (.slice na (E.length+1) nc) (E++[x]) j0 (UB L.length j T T2 ak ⟨kd,p,s,q,nm,ss⟩ LS) T2→SS w w' k b (some ⟨g',off',none⟩) vc (.slice ma (A.length+1) mc) (.slice na (E.length+1) nc) j0 L (j+1) (E++[x]) T2 R2 eU):=fun w' j0 h=>by
        have TH:(c.add ak tu).Below (8001*((j+1:Nat):Int)):=by
         have e8:8001*((j+1:Nat):Int)=8001*(j:Int)+8001:=by omega
         rw [e8]
         exact E5 HCB.o ak qp.o.2.2.1 qp.o.2.2.2.1
        have AB:=h.st
        refine ⟨?_,h.ref,h.YI,h.kk,h.bb,?_,HS7.o,qp.o.1,qp.o.2.1,HST2.o,gB.o,by rw [HLS.o];exact HLI3.o,by rw [fU.o];exact TH,HO.o.below h.YI⟩
        ·rw [fU.o,HAS.o,HLS.o,HLV3.o,Pv.o];exact AB
        ·rw [ND,HEE.o,HES.o,ud.o,←HXE.o];rfl
       generalize Sw L.length j T2 T.Z8 LS=OV at *
       by_cases hc:ak=2∧kd=6
       rotate_left
       ·have bT:UB L.length j T T2 ak ⟨kd,p,s,q,nm,ss⟩ LS=OV:=by rw [ui.o,Z6 hc,Df]
        rw [bT] at p9
        have HFN:=Zh (p9.o wO _ gi.o)
        clear ui bT p9
        have SK:ak≠2∨(ak=2∧kd≠6):=by by_cases a:ak=2 <;> by_cases b:kd=6 <;> simp [a,b];exact hc ⟨a,b⟩
        clear hc
        rcases SK with h|⟨rfl,h⟩
        case' inl=>have e1:(ak == 2)=false:=by rw [WT];exact h
        case' inr=>have e1:(kd == 6)=false:=by rw [WT];exact h
        all_goals
         clear h
         go_wp2_with fail
         go_roundw
         case rel=>exact ⟨j+1,_,_,_,_,_,_,eU,Zo,Zn,rfl,by have h:=HFN.o;rw [wR.o] at h;exact h⟩
         case measure=>simp [intOf];omega
       obtain ⟨rfl,rfl⟩:=hc
       have bT:UB L.length j T T2 2 ⟨6,p,s,q,nm,ss⟩ LS=OV++[⟨p,s,j,L.length⟩]:=by rw [ui.o,ZX ⟨rfl,rfl⟩]
       rw [bT] at p9
       clear ui bT
       have hOVb:OV.length≤10000000:=by rw [HOL.o];omega
       go_upto_region 17 with fail
       have uG:=Zh (gi.o.below (YG _ _).drew)
       have ZC:Hid (∀ w':World,w'.heap[k]?=some (.cells (Qu (some ⟨g',off',none⟩) L.length vc (.slice ma (A.length+1) mc) (.slice na (E.length+1) nc) (.slice la LS.length lc) (c.add 2 tu).bad (c.add 2 tu).YW (c.add 2 tu).unknown (c.add 2 tu).refused 0 0 0 0 (some ⟨b,0,none⟩)) 44 (0,0))→w'.heap[ob]?=some (.cells (Qa 6 p s q (str nm) sa ss.length sc ba bl bc) 32 (0,0))→w'.cell? ⟨k,3,none⟩=some (.slice la LS.length lc)∧w'.cell? ⟨ob,1,none⟩=some (.int .i64 p)∧w'.cell? ⟨ob,2,none⟩=some (.int .i64 s)∧w'.cell? ⟨k,0,none⟩=some (.slice (some ⟨g',off',none⟩) L.length vc)):=fun w' h1 h2=>⟨Zc h1 3 rfl,Zc h2 1 rfl,Zc h2 2 rfl,Zc h1 0 rfl⟩
       refine QN ?_
       refine Z3.Yq (d:=17) (S:=(fun w'=>w'.cell? ⟨k,3,none⟩=some (.slice la LS.length lc)∧w'.cell? ⟨ob,1,none⟩=some (.int .i64 p)∧w'.cell? ⟨ob,2,none⟩=some (.int .i64 s)∧w'.cell? ⟨k,0,none⟩=some (.slice (some ⟨g',off',none⟩) L.length vc))) Zk ?_ (fun Yb=>?_)
       ·(try dsimp only)
        exact ZC.o _ uG.o.st.Y8 uG.o.op
       refine YP 0 (h:=YP 1 (h:=YP 2 (h:=YP 3 (h:=YP 5 (h:=YP 7 (h:=YP 9 (h:=YP 10 (h:=YP 11 (h:=YP 12 (h:=YK 4 (h:=YK 6 (h:=YK 8 (h:=YK 13 (h:=YP 14 (h:=YP 15 (h:=?_))))))))))))))))
       refine YR 16 (h:=fun K hK=>?_)
       refine Va Zr Bf (.tmp 103) Zr (Qe p s (j:Int) (L.length:Int)) Zr Zr Zd ?_
       have qi:=Zh (uG.o.below (Z' wO.drew (.cells (Qe p s (j:Int) (L.length:Int)) 59)))
       refine Z3.Xl hK _ _ ?_ (fun XX=>?_)
       ·(try dsimp only)
        first|exact ZC.o _ qi.o.st.Y8 qi.o.op|exact ZC.o _ uG.o.st.Y8 uG.o.op
       clear hK K
       try simp only [Z3.pt]
       refine YR 17 (h:=fun K hK=>?_)
       refine Zw Zr (.tmp 92) (.tmp 104) 39 Zr w.heap.size Bf (.slice la LS.length lc) OV.length (OV.flatMap Yi) Zr qi.o.st.AE (.slice (some ⟨wO.drew.heap.size,0,none⟩) 1 1) 1 ([(⟨p,s,(j:Int),(L.length:Int)⟩:XJ)].flatMap Yi) Zr (YL _ _ 1 _ ([(⟨p,s,(j:Int),(L.length:Int)⟩:XJ)].flatMap Yi) Zd rfl) rfl (TV fun y _=>sV y) Zo Zo ?_ ?_
       ·exact qi.o.YI.size
       intro v' w12 qo HG
       have Mv:Hid (w12.ownsRow w 59 4 v' (OV++[(⟨p,s,(j:Int),(L.length:Int)⟩:XJ)]).length ((OV++[(⟨p,s,(j:Int),(L.length:Int)⟩:XJ)]).flatMap Yi)):=(by have h:=qo.o;rw [SP,QL];exact h)
       obtain ⟨da,dc,Ig,-⟩:=Row.ZV Mv.o
       subst Ig
       have AQ:=Zh (qi.o.rJ HG.o Mv.o)
       have c3:w12.cell? ⟨k,3,none⟩=some (.slice la LS.length lc):=Zc AQ.o.st.Y8 3 rfl
       have f3:w12.frozen? ⟨k,3,none⟩=false:=ZI AQ.o.st.Y8 3
       refine Z3.WO hK _ _ Zk ?_
       clear hK K
       try simp only [Z3.pt]
       refine YP 18 (h:=YP 19 (h:=?_))
       refine YR 20 (h:=fun K hK=>?_)
       go_simp
       refine Z3.WO hK _ _ Zk ?_
       clear hK K
       try simp only [Z3.pt]
       refine Z3.Xz Zk ?_ _
       refine Py ?_
       have h8:=AQ.o.tN 3 (.slice da (OV++[(⟨p,s,(j:Int),(L.length:Int)⟩:XJ)]).length dc)
       have pQ:(OV++[(⟨p,s,(j:Int),(L.length:Int)⟩:XJ)]).length=OV.length+1:=by simp
       rw [pQ] at h8
       have HFN:=Zh (p9.o _ _ h8)
       clear h8 pQ
       go_wp2_with fail
       go_roundw
       case rel=>exact ⟨j+1,_,_,_,_,_,_,eU,Zo,Zn,rfl,by have h:=HFN.o;rw [wR.o] at h;exact h⟩
       case measure=>simp [intOf];omega
  ·have vB:j=L.length:=by omega
   subst vB
   clear Tk
   go_wp2
   go_ret
   exact ⟨_,_,vs,vc,av,ev,lv,E,T,R,ep,rfl,JY.o⟩
end Go.Proofs.By
