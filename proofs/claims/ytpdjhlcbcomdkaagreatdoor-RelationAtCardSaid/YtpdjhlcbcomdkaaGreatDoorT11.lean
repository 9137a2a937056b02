/- Part of a proof. -/
import Derived.Test.YtpdjhlcbcomdkaaGreatDoorT10
set_option linter.unusedVariables false
set_option linter.unusedSimpArgs false
set_option maxRecDepth 100000
set_option maxHeartbeats 16000000
open Go Go.Q Go.Qr Go.Proofs.Tryz
namespace Go.Proofs.Rm
open Go.RowKit Go.Proofs.Heap Go.Proofs.Mem
theorem MR{l:List Vn}{k:Nat}(h:k<l.length):l.getD k mP=l[k]:=by
 rw[Q_,Ve h];rfl
theorem GA(b:Nat)(T:ZO)(o:Op)(s:Wd)(sa ba ca:Option Addr)(sl sc bl bc cc:Nat)(w:World)(hR:ZM w b T)(hk:o.kind=7∨o.kind=10∨o.kind=11∨o.kind=12)(hn:0≤T.Y6 o.peer o.source) :
  Calls prog 123 (Jd (some ⟨b,0,none⟩) (Jq o sa sl sc ba bl bc) (Qp s.num s.own ca s.ss.length cc s.ZN)) w fun e w'=>e = .returned (.int .i64 (T.Xi o s))∧Below w w w':=by
 obtain⟨k,VM,RX,_,_⟩:=XE hn;have RX:T.Y6 o.peer o.source=k:=RX;have CS:=Zh (fun(w1:World) (h:Below w w w1)=>Wo b T o.peer o.source w1 (hR.below h));have HR:=Zh hR
 have HW:Hid (T.Xi o s=(if o.kind=10∧T.ZY[k].ZV=true then 9 else if o.kind=11∧T.ZY[k].ZV=false then 11 else if o.kind=12∧PE s o.ZI=false then 5 else if o.kind=12∧T.ZY[k].want=o.ZI then 9 else 0)):=by
  show _=_;unfold ZO.Xi ZO.Ol;rw[Z3 Zo,Z3 Zo,Z3 Zo,RX,Wl,MR VM]
 rw[RX]at CS;obtain⟨kd,p,n,q,nm,ss⟩:=o;obtain⟨s0,s1,s2,s3⟩:=s;dsimp only at *
 unfold PE at HW;dsimp only at HW;clear hR RX hn;generalize T.Xi ⟨kd,p,n,q,nm,ss⟩ ⟨s0,s1,s2,s3⟩=wv at *
 generalize s2.length=sln at *
 rcases hk with rfl|rfl|rfl|rfl
 all_goals
  go_enter func123,ntmps123;go_wp2_with fail
  refine(CS.o _ (((YI _ _).alloc (Zw _) _).alloc Zi _)).mono ?_;rintro e w1 ⟨rfl,YZ⟩;obtain⟨LG,I8⟩:=SP YZ;have P8:=YZ.size;obtain⟨pv,sv,uv,Yn,XF⟩:=((HR.o.below (((YI _ _).alloc (Zw _) _).alloc Zi _)).below YZ).Vv;have m1:=XF.ZY.len;have c2:=cell_of Yn 2;have ZW:=XF.ZY;obtain⟨pa,pc,rfl,_⟩:=id ZW;obtain⟨g,off,e1,hc⟩:=Om ZW Zo;subst e1;obtain⟨d0,d1,d2,d3⟩:=hc k T.ZY[k] (Ve VM);have VN:=Zh YZ;clear hc Yn XF ZW YZ;generalize T.ZY[k].want=wt at *
  generalize T.ZY[k].ZV=ps at *
  go_wp2_with fail
 all_goals try(go_quiet (fail);go_wp2)
 all_goals(go_ret;refine⟨YS ?_,?_⟩)
 all_goals try(first|exact(((YI _ _).alloc (Zw _) _).alloc Zi _).trans (VN.o.mono Uf)|exact below_drewN ((((YI _ _).alloc (Zw _) _).alloc Zi _).trans (VN.o.mono Uf)) _)
 all_goals(rw[HW.o];first|(simp[*];done)|(simp_all;done)|(simp_all;omega)|skip)
def ZO.ZL(p:Int)(T:ZO):Nat→List YF×ZO
 | 0=>([],T)
 | k+1=>let x:=ZO.ZL p T k;if 0≤x.2.Y6 p ((k:Int)+1)then(x.1++[⟨2,p,(k:Int)+1,0,0⟩],x.2.WJ p ((k:Int)+1))else x
def ZO.ZH(p:Int)(T:ZO):Nat→List YF×ZO
 | 0=>([],T)
 | k+1=>let x:=ZO.ZH p T k;if x.2.owner ((k:Int)+1)=p then(x.1++(x.2.Yo ((k:Int)+1)).1,(x.2.Yo ((k:Int)+1)).2)else x
def ZO.leave(T:ZO)(p:Int):List YF×ZO:=
 ((ZO.ZL p T 8).1++(ZO.ZH p (ZO.ZL p T 8).2 8).1,(ZO.ZH p (ZO.ZL p T 8).2 8).2.Oi p)
def ZO.ZJ(T:ZO)(n:Int)(on:Bool):ZO:={T with Yj:=T.Yj.set (T.YV n).toNat {T.V6 n with ZN:=on} }
def ZO.YX(T:ZO)(n:Int)(on:Bool)(p:Nat):List YF:=
 if on then[⟨6,p,n,0,0⟩]else⟨7,p,n,0,0⟩ :: (if(T.Ol p n).ZV then[]else[T.ask (T.Ol p n)])
def ZO.mute(T:ZO)(n:Int)(on:Bool):List YF×ZO:=(((T.ZJ n on).Zp n).flatMap ((T.ZJ n on).YX n on),T.ZJ n on)
def ZO.ZQ(T:ZO)(p n:Int)(x:Vn):ZO:={T with ZY:=T.ZY.set (T.Y6 p n).toNat x}
def ZO.changed(T:ZO)(o:Op)(kind:Int):Vn:=
 if kind=4 then{T.Ol o.peer o.source with ZV:=true}else if kind=5 then{T.Ol o.peer o.source with ZV:=false}else{T.Ol o.peer o.source with want:=o.ZI}
def ZO.change(T:ZO)(o:Op)(kind:Int):List YF×ZO:=
 let x:=T.changed o kind
 let T1:=T.ZQ o.peer o.source x
 (⟨kind,o.peer,o.source,if kind=8 then o.ZI else 0,0⟩ :: (if x.ZV||(T1.V6 o.source).ZN then[]else[T1.ask x]),T1)
def ZO.Mq(T:ZO)(x:Vd):ZO:={T with Zz:=T.Zz++[x]}
def ZO.IW(T:ZO)(x:Wd):ZO:={T with Yj:=T.Yj++[x]}
def ZO.Vg(T:ZO)(x:Vn):ZO:={T with ZY:=T.ZY++[x]}
def ZO.subscribe(T:ZO)(o:Op):List YF×ZO:=
 let x:Vn:=⟨o.peer,o.source,o.ZI,false⟩
 (⟨1,o.peer,o.source,o.ZI,0⟩ :: (if((T.Vg x).V6 o.source).ZN then[⟨6,o.peer,o.source,0,0⟩]else[(T.Vg x).ask x]),T.Vg x)
def ZO.turns(T:ZO)(o:Op):List YF×ZO:=
 if o.kind=2 then([],T.Mq ⟨o.peer,o.name⟩)
 else if o.kind=3 then T.leave o.peer
 else if o.kind=4 then([],T.IW ⟨o.source,o.peer,o.ZK,false⟩)
 else if o.kind=5 then T.Yo o.source
 else if o.kind=6 then T.subscribe o
 else if o.kind=7 then([⟨2,o.peer,o.source,0,0⟩],T.WJ o.peer o.source)
 else if o.kind=8 then T.mute o.source true
 else if o.kind=9 then T.mute o.source false
 else if o.kind=10 then T.change o 4
 else if o.kind=11 then T.change o 5
 else T.change o 8
def ZO.WG(T:ZO)(o:Op):(List YF×ZO)×Int:=if T.XW o≠0 then(([],T),T.XW o)else(T.turns o,0)
def ZO.YW(T:ZO)(p x:Int):(List YF×ZO)×Int:=
 if !(T.of x).2.2||decide (T.XD p<0)||decide (T.owner (T.of x).1≠p)then(([],T),8)else(T.Yo (T.of x).1,0)
def small:Nat:=100000
structure ZO.Small(T:ZO):Prop where
 Zz:T.Zz.length≤small
 Yj:T.Yj.length≤small
 ZY:T.ZY.length≤small
theorem ZM.EP{w:World}{b:Nat}{T:ZO}(h:ZM w b T){e:TypeId}(he:e≠91):∀k c fr,k=b→w.heap[k]?≠some (.cells c e fr):=by
 obtain⟨_,_,_,hc,_⟩:=h.Vv;intro k c fr hk;subst hk;rw[hc];exact Uo (fun h=>he h.symm)
theorem ZM.YB{w:World}{b:Nat}{T:ZO}(h:ZM w b T)(j:Nat):w.frozen? ⟨b,j,none⟩=false:=by
 obtain⟨_,_,_,hc,_⟩:=h.Vv;simp[World.frozen?,hc]
theorem ZM.zE{w:World}{b:Nat}{T:ZO}(h:ZM w b T){v:Value}{l:List Vd}(hr:Row w 103 v l.length (l.flatMap Yy)):ZM (w.setCell ⟨b,0,none⟩ v) b {T with Zz:=l}:=by
 have t1:=h.EP (e:=103) Zd;have t2:=h.EP (e:=108) Zd;have t3:=h.EP (e:=105) Zd;have t4:=h.EP (e:=66) Zd;obtain⟨pv,sv,uv,hc,ha,⟨ms,YZ,Zb,WT⟩,RV⟩:=h.Vv;have hf:Fr w (· = b) w (w.setCell ⟨b,0,none⟩ v):=(Fr.refl _ _ _).setAt _ _;refine⟨v,sv,uv,by simp[World.setCell,Array.getElem?_modify,hc],?_⟩;exact⟨hr.fr hf (Zw _) t1,⟨ms,YZ,Zb.fr hf (Zw _) t2,fun m hm=>(WT m hm).fr hf (Zw _) t4⟩,RV.fr hf (Zw _) t3⟩
theorem ZM.G7{w:World}{b:Nat}{T:ZO}(h:ZM w b T){v:Value}(ms:List (Wd×Value)){l:List Wd}(hl:ms.map Prod.fst=l)(hr:Row w 108 v ms.length (ms.flatMap Zg))(TP:∀m∈ms,Row w 66 m.2 m.1.ss.length (YN m.1.ss)) :
  ZM (w.setCell ⟨b,1,none⟩ v) b {T with Yj:=l}:=by
 have t1:=h.EP (e:=103) Zd;have t2:=h.EP (e:=108) Zd;have t3:=h.EP (e:=105) Zd;have t4:=h.EP (e:=66) Zd;obtain⟨pv,sv,uv,hc,ha,_,RV⟩:=h.Vv;have hf:Fr w (· = b) w (w.setCell ⟨b,1,none⟩ v):=(Fr.refl _ _ _).setAt _ _;refine⟨pv,v,uv,by simp[World.setCell,Array.getElem?_modify,hc],?_⟩;exact⟨ha.fr hf (Zw _) t1,⟨ms,hl,hr.fr hf (Zw _) t2,fun m hm=>(TP m hm).fr hf (Zw _) t4⟩,RV.fr hf (Zw _) t3⟩
theorem ZM.K6{w:World}{b:Nat}{T:ZO}(h:ZM w b T){v:Value}{l:List Vn}(hr:Row w 105 v l.length (l.flatMap Zq)):ZM (w.setCell ⟨b,2,none⟩ v) b {T with ZY:=l}:=by
 have t1:=h.EP (e:=103) Zd;have t2:=h.EP (e:=108) Zd;have t3:=h.EP (e:=105) Zd;have t4:=h.EP (e:=66) Zd;obtain⟨pv,sv,uv,hc,ha,⟨ms,YZ,Zb,WT⟩,RV⟩:=h.Vv;have hf:Fr w (· = b) w (w.setCell ⟨b,2,none⟩ v):=(Fr.refl _ _ _).setAt _ _;refine⟨pv,sv,v,by simp[World.setCell,Array.getElem?_modify,hc],?_⟩;exact⟨ha.fr hf (Zw _) t1,⟨ms,YZ,Zb.fr hf (Zw _) t2,fun m hm=>(WT m hm).fr hf (Zw _) t4⟩,hr.fr hf (Zw _) t3⟩
end Go.Proofs.Rm
namespace Go.Proofs.Rm
open Go.RowKit Go.Proofs.Heap Go.Proofs.Mem
theorem Tt(l:List Vn):∀u∈l.flatMap Zq,u.oneCell'=true:=by
 intro u hu;obtain⟨x,_,hx⟩:=List.mem_flatMap.1 hu;exact Lb x u hx
theorem Tq(l:List Vn):(l.flatMap Zq).length=l.length*4:=XN Zq 4 (fun _=>rfl) l
theorem I3{α:Type}(f:α→List Value)(k:Nat)(hk:∀x,(f x).length=k)(l:List α)(n:Nat):(l.flatMap f).take (n*k)=(l.take n).flatMap f:=by
 by_cases h:n≤l.length
 ·conv=>lhs;rw[←List.take_append_drop n l,OD]
  rw[List.take_append_of_le_length fq,EM fq]
 ·rw[EM (by rw[XN f k hk];exact Nat.mul_le_mul_right k Zo),EM Zo]
theorem I2{α:Type}(f:α→List Value)(k:Nat)(hk:∀x,(f x).length=k)(l:List α)(n:Nat):(l.flatMap f).drop (n*k)=(l.drop n).flatMap f:=by
 by_cases h:n≤l.length
 ·conv=>lhs;rw[←List.take_append_drop n l,OD]
  rw[List.drop_append_of_le_length fq,List.drop_of_length_le fq,Hz]
 ·rw[List.drop_of_length_le (by rw[XN f k hk];exact Nat.mul_le_mul_right k Zo),List.drop_of_length_le Zo];rfl
theorem TU{w w3:World}{cs:Array Value}{e:TypeId}(h:Below (w.heap.size+1) (w.alloc (.cells cs e)) w3)(j:Nat):w3.cell? ⟨w,j,none⟩=cs[j]?∧w3.frozen? ⟨w,j,none⟩=false:=by
 have hb:=h.block w Zo;rw[Z9]at hb;exact⟨by simp only[World.cell?,hb];rfl,by simp[World.frozen?,hb]⟩
def S5(w:World)(g:Nat):Prop:=∃c f,w.heap[g]?=some (.cells c 158 f)
theorem S5.set{w:World}{g:Nat}(h:S5 w g)(a:Addr)(u:Value):S5 (w.setCell a u) g:=by
 obtain⟨c,f,h⟩:=h;unfold S5;by_cases e:a.block=g
 ·subst e;simp[World.setCell,Array.getElem?_modify,h]
 ·refine⟨c,f,?_⟩;simp[World.setCell,Array.getElem?_modify,e,h]
theorem S5.drew{w:World}{g:Nat}(h:S5 w g):S5 w.drew g:=h
theorem S5.Z6{w w3:World}{cs:Array Value}(h:Below (w.heap.size+1) (w.alloc (.cells cs 158)) w3):S5 w3 w.heap.size:=by
 have hb:=h.block w Zo;rw[Z9]at hb;exact⟨_,_,hb⟩
theorem ZM.K7{w:World}{b:Nat}{T:ZO}(h:ZM w b T){g:Nat}(hg:S5 w g)(j:Nat)(u:Value):ZM (w.setCell ⟨g,j,none⟩ u) b T:=by
 obtain⟨c,f,hg⟩:=hg;have hf:Fr w (· = g) w (w.setCell ⟨g,j,none⟩ u):=(Fr.refl _ _ _).setAt _ _
 have GX:∀e,158≠e→∀k c fr,k=g→w.heap[k]?≠some (.cells c e fr):=by
  intro e he k c fr hk;subst hk;rw[hg];exact Uo he
 have hb:=h.lt;obtain⟨pv,sv,uv,hc,ht⟩:=h.Vv;exact⟨pv,sv,uv,by rw[hf.block b hb (fun e=>GX _ Zd b _ _ e hc)];exact hc,ht.fr hf (Zw _) (GX _ Zd) (GX _ Zd) (GX _ Zd) (GX _ Zd)⟩
theorem ZM.drew{w:World}{b:Nat}{T:ZO}(h:ZM w b T):ZM w.drew b T:=h.below (YI _ _).drew
theorem ZM.alloc{w:World}{b:Nat}{T:ZO}(h:ZM w b T)(o:Obj):ZM (w.alloc o) b T:=h.below (Z' _ _)
theorem Lv(b:Nat)(T:ZO)(p n:Int)(w:World)(hR:ZM w b T)(hs:T.Small)(hh:0≤T.Y6 p n) :
  Calls prog 100 (Qu (some ⟨b,0,none⟩) p n) w fun e w'=>e = .returned (VZ ⟨2,p,n,0,0⟩)∧ZM w' b (T.WJ p n)∧Fr w (· = b) w w':=by
 obtain⟨k,hk,RX,-,-⟩:=XE hh;have RX:T.Y6 p n=k:=RX;have CS:=Zh (fun(w1:World) (h:Below w w w1)=>Wo b T p n w1 (hR.below h));rw[RX]at CS;have hb:=hR.lt;have HR:=Zh hR;have HE:Hid (T.WJ p n={T with ZY:=T.ZY.take k++T.ZY.drop (k+1)}):=by show _=_;unfold ZO.WJ;rw[RX,Wl,List.eraseIdx_eq_take_drop_succ]
 have Vl:=hs.ZY;unfold small at Vl;obtain⟨pv,sv,uv,Yn,XF⟩:=hR.Vv;have ZW:=XF.ZY;have hlen:=ZW.len;obtain⟨a,cap,rfl,OX,uz,-,-⟩:=id ZW;obtain⟨a1,run1,zt,_⟩:=Sk Ug a T.ZY.length cap k Zo;obtain⟨a2,ny,zu,_⟩:=SI Ug a T.ZY.length cap (k+1) Zo OX;rw[show(((k+1:Nat):Int))=(k:Int)+1 by omega]at ny
 have xE:Hid (∀w',Below w w w'→Row w' 105 (.slice a1 k cap) k ((T.ZY.take k).flatMap Zq)):=fun w' h=>by
  have:=zt w' _ Zo (Tq _) (ZW.below h)
  rwa[I3 Zq 4 (fun _=>rfl)]at this
 have BX:Hid (∀w',Below w w w'→Row w' 105 (.slice a2 (T.ZY.length-(k+1)) (cap-(k+1))) (T.ZY.length-(k+1)) ((T.ZY.drop (k+1)).flatMap Zq)):=fun w' h=>by
  have:=zu w' _ (Tq _) (ZW.below h)
  rwa[I2 Zq 4 (fun _=>rfl)]at this
 have E0:Hid (((T.ZY.take k).flatMap Zq).length=k*4):=by show _=_;rw[Tq,SY,Nat.min_eq_left Zo]
 have rN:Hid (((T.ZY.drop (k+1)).flatMap Zq).length=(T.ZY.length-(k+1))*4):=by show _=_;rw[Tq,Ra]
 have HL3:Hid ((T.ZY.take k++T.ZY.drop (k+1)).length=k+(T.ZY.length-(k+1))):=by show _=_;rw[UG,SY,Ra,Nat.min_eq_left Zo]
 have HC:Hid (∀w',Below w w w'→w'.cell? ⟨b,2,none⟩=some (.slice a T.ZY.length cap)):=fun w' h=>(h.cell (p:=⟨b,2,none⟩) hb).trans (cell_of Yn 2)
 have qd:k+1≤T.ZY.length:=hk;clear hR XF Yn ZW zt zu RX hh hs;generalize T.ZY.length=N at *
 have I8:=HR.o.YB 2;have HFZ:Hid (∀w',Below w w w'→w'.frozen? ⟨b,2,none⟩=false):=fun w' h=>(h.frozen (p:=⟨b,2,none⟩) hb).trans I8
 clear I8;go_enter func100,ntmps100;go_wp2_with fail
 have bB:Hid (∀w',Below (w.heap.size+1) (w.alloc (.cells (Qh 0 0 0 0 0) 158)) w'→Below w w w'):=fun w' h=>(Z' w _).trans (h.mono Zo)
 refine(CS.o _ (Z' _ _)).mono ?_;rintro e w1 ⟨rfl,YZ⟩;have WX:Below (w.heap.size+1) (w.alloc (.cells (Qh 0 0 0 0 0) 158)) w1:=by have:=YZ;rwa[World.size_alloc]at this
 have RR:=WX.size;rw[World.size_alloc]at RR;have iX:IntKind.i64.wrap ((k:Int)+1)=(k:Int)+1:=Te _ Zo;have zY:=HC.o _ (bB.o _ WX);clear YZ;go_wp2_with fail
 go_region_law (first|(refine Ze Zr (.const (.slice none 0 0)) (.tmp 18) 49 Zr (w.heap.size+1) Ug (.slice none 0 0) 0 [] Zr (TV _ _ _ _) (.slice a1 k cap) k ((T.ZY.take k).flatMap Zq) Zr ?_ E0.o (Tt _) Zo Zo ?_ ?_;(exact xE.o _ (bB.o _ xM));(exact PX (Nat.le_of_eq (World.size_alloc w _).symm) (Below.size xM));intro v1 w2 Ao Ot;have Yp:Below (w.heap.size+1) (w.alloc (.cells (Qh 0 0 0 0 0) 158)) w2:=Below.grown xM Ot.o (PX (Nat.le_of_eq (World.size_alloc w _).symm) (Below.size xM)) (YL (TV w1 _ 105 4));have c2:=HC.o _ (bB.o _ Yp))|(refine Ze Zr (.tmp 19) (.tmp 26) 49 Zr (w.heap.size+1) Ug v1 (0+k) ([]++(T.ZY.take k).flatMap Zq) Zr ?_ (.slice a2 (N-(k+1)) (cap-(k+1))) (N-(k+1)) ((T.ZY.drop (k+1)).flatMap Zq) Zr ?_ rN.o (Tt _) Zo Zo ?_ ?_;(first|exact Ao.o|exact Xb Ao.o);(exact BX.o _ (bB.o _ xM));(exact PX (Nat.le_of_eq (World.size_alloc w _).symm) (Below.size xM));intro v2 w3 Nl JY;have Wf:Below (w.heap.size+1) (w.alloc (.cells (Qh 0 0 0 0 0) 158)) w3:=Below.grown xM JY.o (PX (Nat.le_of_eq (World.size_alloc w _).symm) (Below.size xM)) (YL Ao.o);have c3:=HC.o _ (bB.o _ Wf);have f3:=HFZ.o _ (bB.o _ Wf);obtain⟨va,vc,hv⟩:=Wu Nl.o;subst hv))
 all_goals
  have d0:w3.cell? ⟨w,0,none⟩=some (.int .i64 0):=(TU Wf 0).1;have d1:w3.cell? ⟨w,1,none⟩=some (.int .i64 0):=(TU Wf 1).1;have d2:w3.cell? ⟨w,2,none⟩=some (.int .i64 0):=(TU Wf 2).1;have d3:w3.cell? ⟨w,3,none⟩=some (.int .i64 0):=(TU Wf 3).1;have d4:w3.cell? ⟨w,4,none⟩=some (.int .u32 0):=(TU Wf 4).1;have z0:=(TU Wf 0).2;have z1:=(TU Wf 1).2;have z2:=(TU Wf 2).2;have z3:=(TU Wf 3).2;have z4:=(TU Wf 4).2;have WN:¬b=w.heap.size:=by omega
  have hne2:¬w.heap.size=b:=by omega
  go_wp2;have ZW:=Row.Z4 Nl.o;rw[Hz,←OD,PW]at ZW;have Ej:ZM w3 b T:=HR.o.below (bB.o _ Wf);have M0:k+(N-(k+1))=(T.ZY.take k++T.ZY.drop (k+1)).length:=by rw[HL3.o]
  rw[M0]at ZW;have yE:=Ej.K6 ZW;rw[←M0]at yE;refine VD (v:=VZ ⟨2,p,n,0,0⟩) (by simp[results,results100,go_sem,VZ,d0,d1,d2,d3,d4]) rfl ⟨rfl,?_,?_⟩
  ·rw[HE.o];have ht:=(S5.Z6 Wf);exact((((yE.K7 (ht.set _ _) 0 _).K7 ((ht.set _ _).set _ _) 1 _).K7 (((ht.set _ _).set _ _).set _ _) 2 _).K7 ((((ht.set _ _).set _ _).set _ _).set _ _) 3 _).K7 (((((ht.set _ _).set _ _).set _ _).set _ _).set _ _) 4 _
  ·exact(((((((Fr.Z6 _ (bB.o _ Wf)).setAt _ _).setCell (WO (Zw _)) _).setCell (WO (Zw _)) _).setCell (WO (Zw _)) _).setCell (WO (Zw _)) _).setCell (WO (Zw _)) _)
open Go.Proofs.ND (may key Xu)
structure KX(w:World)(g:Nat)(nm nk:List UInt8)(w':World):Prop where
 c1:w'.cell? ⟨w,4,none⟩=some (.string (str nm))
 c2:w'.cell? ⟨g,1,none⟩=some (.string (str nk))
 Zf:Below w w w'
 s1:w.heap.size<w'.heap.size
 s2:g<w'.heap.size
section
variable {w w1 w2:World} {g:Nat} {nm nk:List UInt8}
theorem KX.below(h:KX w g nm nk w1)(hb:Below w1 w1 w2):KX w g nm nk w2:=
 ⟨(hb.cell (p:=⟨w,4,none⟩) h.s1).trans h.c1,(hb.cell (p:=⟨g,1,none⟩) h.s2).trans h.c2,h.Zf.trans (hb.mono h.Zf.size),OB h.s1 hb.size,OB h.s2 hb.size⟩
theorem KX.drew(h:KX w g nm nk w1):KX w g nm nk w1.drew:=h.below (YI _ _).drew
theorem KX.all(h:KX w g nm nk w1):w1.cell? ⟨w,4,none⟩=some (.string (str nm))∧w1.cell? ⟨g,1,none⟩=some (.string (str nk))∧KX w g nm nk w1:=⟨h.c1,h.c2,h⟩
theorem KX.mk'{y0:Int}(h1:Below w w w1)(h2:w.heap.size<w1.heap.size)(h3:w1.cell? ⟨w,4,none⟩=some (.string (str nm))){e:TypeId}:KX w w1 nm nk (w1.alloc (.cells (Q5 y0 (str nk)) e)):=by
 refine⟨?_,?_,h1.alloc h1.size _,by simp;omega,by simp⟩
 ·rw[(Z' w1 _).cell (p:=⟨w,4,none⟩) h2];exact h3
 ·exact cell_of (Z9 w1 _) 1
end
theorem zC(b:Nat)(T:ZO)(o:Op)(sa ba:Option Addr)(sl sc bl bc:Nat)(w:World)(hR:ZM w b T)(hT:Xu w)(UT:o.name.length<9223372036854775807)(SV:∀x∈T.Zz,x.name.length<9223372036854775807)(hk:o.kind=2)(Da:1≤o.peer∧o.peer≤8) :
  Calls prog 96 (Qi (some ⟨b,0,none⟩) (Jq o sa sl sc ba bl bc)) w fun e w'=>e = .returned (.int .i64 (T.XW o))∧Below w w w':=by
 have CA:=Zh (fun(w1:World) (h:Below w w w1)=>Sw b T o.peer w1 (hR.below h));have hb:=hR.lt;obtain⟨kd,p,n,q,nm,ss⟩:=o;dsimp only at *
 subst hk
 have HJ:Hid (T.XW ⟨2,p,n,q,nm,ss⟩=if 0≤T.XD p then 9 else if !may nm then 12 else if T.Zz.any (fun x=>decide (key x.name=key nm))then 9 else 0):=by
  show _=_;unfold ZO.XW;rw[Z3 Zi,Z3 Uf,ZU rfl]
 have CM:Hid (∀w1,Below w w w1→Calls prog 120 #[.string (str nm)] w1 fun e w'=>e = .returned (.bool (may nm))∧Below w1 w1 w'):=fun w1 h=>ND.zk (str nm) w1 (by rw[Nc];exact UT) (Utf8Tabs_below hT h)
 have CK:Hid (∀(s:List UInt8) w1,s.length<9223372036854775807→Below w w w1→Calls prog 121 #[.string (str s)] w1 fun e w'=>e = .returned (.string (str (key s)))∧Below w1 w1 w'):=fun s w1 hs h=>ND.m_ (str s) w1 (by rw[Nc];exact hs) (Utf8Tabs_below hT h)
 have au:=UT;obtain⟨pv,sv,uv,Yn,XF⟩:=hR.Vv;have hlen:=XF.Zz.len;have DZ:Hid (∀w',Below w w w'→w'.cell? ⟨b,0,none⟩=some pv):=fun w' h=>(h.cell (p:=⟨b,0,none⟩) hb).trans (cell_of Yn 0)
 have HP:Hid (∀w',Below w w w'→Row w' 103 pv T.Zz.length (T.Zz.flatMap Yy)):=fun w' h=>XF.Zz.below h
 obtain⟨pa,pc,rfl,_⟩:=id XF.Zz;have HPN:=Zh SV;generalize T.XW ⟨2,p,n,q,nm,ss⟩=jn at *
 generalize T.XD p=at' at *
 clear hR UT XF Yn SV;generalize T.Zz=P at *
 by_cases hj:0≤at'
 ·have HF:Hid (jn=9):=by show _=_;rw[HJ.o,ZU hj]
  go_enter func96,ntmps96;go_wp2_with (go_at_call 48;refine(CA.o _ (Z' _ _)).mono ?_;rintro e w1 ⟨rfl,YZ⟩;obtain⟨LG,I8⟩:=SP YZ;have P8:=YZ.size)
  exact fy
 cases hm:may nm
 ·have HF:Hid (jn=12):=by show _=_;rw[HJ.o,Z3 hj,hm];rfl
  rw[hm]at CM;clear hm;go_enter func96,ntmps96;go_wp2_with (first|(go_at_call 48;refine(CA.o _ (Z' _ _)).mono ?_;rintro e w1 ⟨rfl,YZ⟩;obtain⟨LG,I8⟩:=SP YZ;have P8:=YZ.size;have QE:=(Z' w _).trans (YZ.mono Zi))|(go_at_call 120;refine(CM.o _ QE).mono ?_;rintro e w2 ⟨rfl,Zb⟩))
  go_ret;exact⟨YS HF.o.symm,QE.trans (Zb.mono QE.size)⟩
 have HJ2:Hid (jn=if P.any (fun x=>decide (key x.name=key nm))then 9 else 0):=by show _=_;rw[HJ.o,Z3 hj,hm];rfl
 rw[hm]at CM;clear hm HJ;go_enter func96,ntmps96;go_wp2_with (first|(go_at_call 48;refine(CA.o _ (Z' _ _)).mono ?_;rintro e w1 ⟨rfl,YZ⟩;obtain⟨LG,I8⟩:=SP YZ;have P8:w.heap.size<w1.heap.size:=OB Zi YZ.size;have QE:=(Z' w _).trans (YZ.mono Zi);have yw:=YZ.cell (p:=⟨w,4,none⟩) Zi;simp at yw)|(go_at_call 120;refine(CM.o _ QE).mono ?_;rintro e w2 ⟨rfl,Zb⟩;have Yp:=QE.trans (Zb.mono QE.size);have zY:=DZ.o _ Yp;have Ih:=(Zb.cell (p:=⟨w,4,none⟩) P8).trans yw;have TY:=OB P8 Zb.size))
 clear zY;go_loopw [43] (fun i w'=>∃k:Nat,k≤P.length∧i = .int .i64 k∧Below w w w'∧w.heap.size<w'.heap.size∧w'.cell? ⟨w,4,none⟩=some (.string (str nm))∧Hid (∀j (h:j<P.length),j<k→key P[j].name≠key nm)) (fun i _=>P.length-(intOf i).toNat)
 case atStart=>exact⟨0,TH _,rfl,Yp,TY,Ih,fun j h hj=>by omega⟩
 case round=>
  obtain⟨k,hk,rfl,WX,Uk,A_,Ov⟩:=hrel;by_cases VM:k<P.length
  ·obtain⟨g,off,e1,hc⟩:=sW (HP.o wr WX) Zo;subst e1;obtain⟨d0,d1⟩:=hc k P[k] (Ve VM);have hnl:=HPN.o P[k] (OC VM)
   have HIN:Hid (key P[k].name=key nm→jn=9):=by
    intro h;rw[HJ2.o,ZU];rw[List.any_eq_true];exact⟨P[k],OC VM,by simpa using h⟩
   have iK:Hid (key P[k].name≠key nm→∀j (h:j<P.length),j<k+1→key P[j].name≠key nm):=fun h j hj Ik=>by
    by_cases e:j=k
    ·subst e;exact h
    ·exact Ov.o j hj Zo
   clear hc;generalize P[k]=y at *
   obtain⟨y0,nk⟩:=y;dsimp only at d0 d1 HIN iK hnl;have CK1:=Zh (fun w2 (h:Below w w w2)=>CK.o nk w2 hnl h);have CK2:=Zh (fun w2 (h:Below w w w2)=>CK.o nm w2 au h);have hkx:=KX.mk' (nk:=nk) (y0:=y0) (e:=103) WX Uk A_;by_cases RX:key nk=key nm
   ·have HF:=Zh (HIN.o RX);rw[RX]at CK1;clear RX;go_wp2_with fail
    go_region_held3 (fun w'=>w'.cell? ⟨w,4,none⟩=some (.string (str nm))∧w'.cell? ⟨wr,1,none⟩=some (.string (str nk))∧KX w wr nm nk w') (first|((with_reducible apply KX.all);with_reducible assumption)|((with_reducible apply KX.all);(with_reducible apply KX.drew);with_reducible assumption)|go_keep) (first|(go_at_call 121;go_split_ands;(with_reducible refine Calls.mono (CK1.o _ ?_) ?_);(with_reducible apply KX.Zf);(with_reducible assumption);rintro e w2 ⟨rfl,Zb⟩;have kx2:=KX.below WQ Zb)|(go_at_call 121;go_split_ands;(with_reducible refine Calls.mono (CK2.o _ ?_) ?_);(with_reducible apply KX.Zf);(with_reducible assumption);rintro e w3 ⟨rfl,WT⟩;have kx3:=KX.below WQ WT))
    all_goals(go_wp2;go_ret;exact⟨YS HF.o.symm,KX.Zf WQ⟩)
   ·have HF:=Zh (iK.o RX);have e3:((str (key nk)).toList==(str (key nm)).toList)=false:=by rw[WM,ByteArray.toList_eq,ByteArray.toList_eq];exact RX
    clear RX;go_wp2_with fail
    go_region_held3 (fun w'=>w'.cell? ⟨w,4,none⟩=some (.string (str nm))∧w'.cell? ⟨wr,1,none⟩=some (.string (str nk))∧KX w wr nm nk w') (first|((with_reducible apply KX.all);with_reducible assumption)|((with_reducible apply KX.all);(with_reducible apply KX.drew);with_reducible assumption)|go_keep) (first|(go_at_call 121;go_split_ands;(with_reducible refine Calls.mono (CK1.o _ ?_) ?_);(with_reducible apply KX.Zf);(with_reducible assumption);rintro e w2 ⟨rfl,Zb⟩;have kx2:=KX.below WQ Zb)|(go_at_call 121;go_split_ands;(with_reducible refine Calls.mono (CK2.o _ ?_) ?_);(with_reducible apply KX.Zf);(with_reducible assumption);rintro e w3 ⟨rfl,WT⟩;have kx3:=KX.below WQ WT))
    all_goals
     go_wp2;go_roundw
     case rel=>exact⟨k+1,Zo,Zn,KX.Zf WQ,KX.s1 WQ,KX.c1 WQ,HF.o⟩
     case measure=>simp[intOf];omega
  ·have HF:Hid (jn=0):=by
    show _=_;rw[HJ2.o,Z3];rw[List.any_eq_true];rintro⟨x,hx,NK⟩;obtain⟨j,hj,rfl⟩:=List.getElem_of_mem hx;exact Ov.o j hj Zo (by simpa using NK)
   go_wp2;go_ret;exact⟨YS HF.o.symm,WX⟩
theorem BP(b:Nat)(T:ZO)(o:Op)(s:Wd)(sa ba ca:Option Addr)(sl sc bl bc cc:Nat)(w:World)(hR:ZM w b T)(hk:5≤o.kind∧o.kind≤12) :
  Calls prog 123 (Jd (some ⟨b,0,none⟩) (Jq o sa sl sc ba bl bc) (Qp s.num s.own ca s.ss.length cc s.ZN)) w fun e w'=>e = .returned (.int .i64 (T.Xi o s))∧Below w w w':=by
 by_cases h1:o.kind=5∨o.kind=8∨o.kind=9
 ·exact BQ b T o s sa ba ca sl sc bl bc cc w h1
 by_cases h2:o.kind=6
 ·exact LW b T o s sa ba ca sl sc bl bc cc w hR h2
 by_cases h3:T.Y6 o.peer o.source<0
 ·exact EI b T o s sa ba ca sl sc bl bc cc w hR Zo h3
 ·exact GA b T o s sa ba ca sl sc bl bc cc w hR Zo Zo
theorem zD(b:Nat)(T:ZO)(o:Op)(sa ba:Option Addr)(sc bl bc:Nat)(w:World)(hR:ZM w b T)(hk:¬(o.kind=2∧1≤o.peer∧o.peer≤8))
  (ZW:XM w (.slice sa o.ZK.length sc) o.ZK.length (YN o.ZK)) :
  Calls prog 96 (Qi (some ⟨b,0,none⟩) (Jq o sa o.ZK.length sc ba bl bc)) w fun e w'=>e = .returned (.int .i64 (T.XW o))∧Below w w w':=by
 have CA:=Zh (fun(w1:World) (h:Below w w w1)=>Sw b T o.peer w1 (hR.below h));have CB:=Zh (fun(w1:World) (h:Below w w w1)=>VV b T o.source w1 (hR.below h));have CP:=Zh (fun(w1:World) (h:Below w w w1)=>Gz b T o (T.YV o.source) sa ba sc bl bc w1 (hR.below h) (ZW.below h));have HR:=Zh hR;have hb:=hR.lt
 have HW:Hid (T.XW o=if o.kind<2∨12<o.kind then 4
 else if o.peer<1∨8<o.peer then 5
 else if o.kind=2 then
  (if 0≤T.XD o.peer then 9 else if !may o.name then 12 else if T.Zz.any (fun x=>decide (key x.name=key o.name))then 9 else 0)
 else if T.XD o.peer<0 then 8
 else if o.kind=3 then 0
 else if o.source<1∨8<o.source then 5
 else if o.kind=4 then T.TG o (T.YV o.source)
 else if T.YV o.source<0 then 8
 else T.Xi o (T.V6 o.source)):=rfl
 have HS:Hid (0≤T.YV o.source→∃k:Nat,k<T.Yj.length∧T.YV o.source=k∧T.V6 o.source=T.Yj.getD k UI):=fun h=>by
  obtain⟨k,hk,e,-,-⟩:=XE h;refine⟨k,hk,e,?_⟩;unfold ZO.V6;rw[show T.YV o.source=k from e,Wl]
 have CS:=Zh (fun(s:Wd) (ca:Option Addr) (cc:Nat) (w1:World) (h:Below w w w1) (hk:5≤o.kind∧o.kind≤12)=>BP b T o s sa ba ca o.ZK.length sc bl bc cc w1 (hR.below h) hk);obtain⟨kd,p,n,q,nm,ss⟩:=o;dsimp only at *
 clear hR ZW;have HAT:Hid (T.XD p<0∨0≤T.XD p):=by show _∨_;omega
 generalize T.XW ⟨kd,p,n,q,nm,ss⟩=wv at *
 generalize T.XD p=pat at *
 generalize T.TG ⟨kd,p,n,q,nm,ss⟩ (T.YV n)=pb at *
 by_cases h1:kd<2
 ·have HF:Hid (wv=4):=by show _=_;rw[HW.o,ZU (WO h1)]
  exact fH
 by_cases h2:12<kd
 ·have HF:Hid (wv=4):=by show _=_;rw[HW.o,ZU (WB h2)]
  exact fH
 by_cases h3:p<1
 ·have HF:Hid (wv=5):=by show _=_;rw[HW.o,Z3 Zo,ZU (WO h3)]
  exact fH
 by_cases h4:8<p
 ·have HF:Hid (wv=5):=by show _=_;rw[HW.o,Z3 Zo,ZU (WB h4)]
  exact fH
 have Bb:kd≠2:=fun h=>hk ⟨h,Zo,Zo⟩
 have HK2:=Zh Bb;have b2:(kd==2)=false:=by rw[WM];exact Bb
 have BX:Hid (wv=if pat<0 then 8 else if kd=3 then 0 else if n<1∨8<n then 5 else if kd=4 then pb else if T.YV n<0 then 8 else T.Xi ⟨kd,p,n,q,nm,ss⟩ (T.V6 n)):=by
  show _=_;rw[HW.o,Z3 Zo,Z3 Zo,Z3 Bb]
 clear HW hk Bb;by_cases h5:pat<0
 ·have HF:Hid (wv=8):=by show _=_;rw[BX.o,ZU h5]
  have b5:decide (0≤pat)=false:=by simpa using h5
  exact fC
 have h5p:0≤pat:=by omega
 by_cases h6:kd=3
 ·subst h6;have HF:Hid (wv=0):=by show _=_;rw[BX.o,Z3 h5,ZU rfl]
  exact fC
 have b3:(kd==3)=false:=by rw[WM];exact h6
 by_cases h7:n<1
 ·have HF:Hid (wv=5):=by show _=_;rw[BX.o,Z3 h5,Z3 h6,ZU (WO h7)]
  clear h6;exact fC
 by_cases h8:8<n
 ·have HF:Hid (wv=5):=by show _=_;rw[BX.o,Z3 h5,Z3 h6,ZU (WB h8)]
  clear h6;exact fC
 have nY:Hid (wv=if kd=4 then pb else if T.YV n<0 then 8 else T.Xi ⟨kd,p,n,q,nm,ss⟩ (T.V6 n)):=by
  show _=_;rw[BX.o,Z3 h5,Z3 h6,Z3 Zo]
 clear BX;by_cases h9:kd=4
 ·subst h9;have HF:Hid (wv=pb):=by show _=_;rw[nY.o,ZU rfl]
  clear h6 HS nY;generalize T.YV n=sat at *
  go_enter func96,ntmps96;go_wp2_with (first|(go_at_call 48;(with_reducible refine(CA.o _ (Z' _ _)).mono ?_);rintro e w1 ⟨rfl,YZ⟩;obtain⟨LG,I8⟩:=SP YZ;have P8:w.heap.size<w1.heap.size:=OB Zi YZ.size;have QE:=(Z' w _).trans (YZ.mono Zi))|(go_at_call 49;(with_reducible refine(CB.o _ QE).mono ?_);rintro e w2 ⟨rfl,Zb⟩;obtain⟨hcl2,hfz2⟩:=SP Zb;have TY:=OB P8 Zb.size;have Yp:=QE.trans (Zb.mono QE.size))|(go_at_call 122;(with_reducible refine(CP.o _ Yp).mono ?_);rintro e w3 ⟨rfl,WT⟩))
  go_ret;exact⟨YS HF.o.symm,Yp.trans (WT.mono Yp.size)⟩
 have b4:(kd==4)=false:=by rw[WM];exact h9
 have gU:5≤kd∧kd≤12:=by have:=HK2.o;omega
 by_cases GP:T.YV n<0
 ·have HF:Hid (wv=8):=by show _=_;rw[nY.o,Z3 h9,ZU GP]
  clear h6 h9 HS nY;generalize T.YV n=sat at *
  go_enter func96,ntmps96;go_wp2_with (first|(go_at_call 48;(with_reducible refine(CA.o _ (Z' _ _)).mono ?_);rintro e w1 ⟨rfl,YZ⟩;obtain⟨LG,I8⟩:=SP YZ;have P8:w.heap.size<w1.heap.size:=OB Zi YZ.size;have QE:=(Z' w _).trans (YZ.mono Zi))|(go_at_call 49;(with_reducible refine(CB.o _ QE).mono ?_);rintro e w2 ⟨rfl,Zb⟩;obtain⟨hcl2,hfz2⟩:=SP Zb;have TY:=OB P8 Zb.size;have Yp:=QE.trans (Zb.mono QE.size)))
  go_ret;exact⟨YS HF.o.symm,Yp⟩
 ·obtain⟨k,VM,RX,hsd⟩:=HS.o Zo;have HF:Hid (wv=T.Xi ⟨kd,p,n,q,nm,ss⟩ (T.Yj.getD k UI)):=by show _=_;rw[nY.o,Z3 h9,Z3 GP,hsd]
  rw[RX]at CB;clear h6 h9 GP nY HS CP RX hsd;go_enter func96,ntmps96;go_wp2_with fail
  (with_reducible refine(CA.o _ (Z' _ _)).mono ?_)
  rintro e w1 ⟨rfl,YZ⟩;obtain⟨LG,I8⟩:=SP YZ;have P8:w.heap.size<w1.heap.size:=OB Zi YZ.size;have QE:=(Z' w _).trans (YZ.mono Zi);go_wp2_with fail
  (with_reducible refine(CB.o _ QE).mono ?_)
  rintro e w2 ⟨rfl,Zb⟩;obtain⟨hcl2,hfz2⟩:=SP Zb;have TY:=OB P8 Zb.size;have Yp:=QE.trans (Zb.mono QE.size);obtain⟨pv,sv,uv,Yn,XF⟩:=(HR.o.below Yp).Vv;obtain⟨P,Tj,ZW,TP⟩:=XF.Yj;have VM:k<P.length:=by rw[←Tj,Tx]at VM;exact VM
  have hlen:=ZW.len;have c1:=cell_of Yn 1;have HX:Hid (T.Yj.getD k UI=P[k].1):=by show _=_;rw[←Tj,Ui VM]
  have hr:=TP P[k] (OC VM);obtain⟨pa,pc,rfl,-,-⟩:=id ZW;obtain⟨g,off,e1,hc⟩:=Su ZW Zo;subst e1;obtain⟨d0,d1,d2,d3⟩:=hc k P[k] (Ve VM);obtain⟨ca,cc,hv,-,-⟩:=id hr;rw[hv]at d2;have CS2:=Zh (fun(w1:World) (h:Below w w w1)=>CS.o P[k].1 ca cc w1 h gU);have hb2':=Zh Zb;have hb1':=Zh YZ;have lB:=Zh Yp;clear hc hv hr TP Yn XF Tj ZW YZ Zb QE Yp;generalize P[k]=x at *
  obtain⟨⟨x0,x1,x2,x3⟩,x4⟩:=x;dsimp only at d0 d1 d2 d3 HX CS2;go_wp2_with fail
  go_still_tail 9,X_
  go_wp2_with (go_at_call 123;(with_reducible refine(CS2.o _ (Below.drew lB.o)).mono ?_);rintro e w3 ⟨rfl,WT⟩)
  go_ret;exact⟨YS (by rw[HF.o,HX.o]),lB.o.drew.trans (WT.mono lB.o.size)⟩
theorem V9(b:Nat)(T:ZO)(o:Op)(sa ba:Option Addr)(sc bl bc:Nat)(w:World)(hR:ZM w b T)(hT:Xu w)(UT:o.name.length<9223372036854775807)(SV:∀x∈T.Zz,x.name.length<9223372036854775807)
  (ZW:XM w (.slice sa o.ZK.length sc) o.ZK.length (YN o.ZK)) :
  Calls prog 96 (Qi (some ⟨b,0,none⟩) (Jq o sa o.ZK.length sc ba bl bc)) w fun e w'=>e = .returned (.int .i64 (T.XW o))∧Below w w w':=by
 by_cases h:o.kind=2∧1≤o.peer∧o.peer≤8
 ·exact zC b T o sa ba _ sc bl bc w hR hT UT SV h.1 h.2
 ·exact zD b T o sa ba sc bl bc w hR h ZW
end Go.Proofs.Rm
namespace Go.Proofs.Heap
open Go.RowKit
theorem Below.alloc'{B:Nat}{a w:World}(h:Below B a w)(hB:B≤a.heap.size)(o:Obj):Below B a (w.alloc o):=h.alloc (PX hB h.size) o
theorem Below.call{B:Nat}{a w w2:World}(h:Below B a w)(hB:B≤a.heap.size)(hb:Below w w w2):Below B a w2:=h.trans (hb.mono (PX hB h.size))
theorem le2(w:World)(A B:Obj):w.heap.size+2≤((w.alloc A).alloc B).heap.size:=by simp
end Go.Proofs.Heap
namespace Go.Proofs.Rm
open Go.RowKit Go.Proofs.Heap Go.Proofs.Mem
theorem GL(b:Nat)(T:ZO)(x:Vn)(w:World)(hR:ZM w b T)(hs:0≤T.YV x.source)(hw:0≤x.want∧x.want<(T.V6 x.source).ss.length) :
  Calls prog 99 (Qi (some ⟨b,0,none⟩) (Qk x.peer x.source x.want x.ZV)) w fun e w'=>e = .returned (VZ (T.ask x))∧Below w w w':=by
 obtain⟨k,VM,RX,-,-⟩:=XE hs;have RX:T.YV x.source=k:=RX;have CB:=Zh (fun(w1:World) (h:Below w w w1)=>VV b T x.source w1 (hR.below h));rw[RX]at CB;have hb:=hR.lt;have HSD:Hid (T.V6 x.source=T.Yj.getD k UI):=by show _=_;unfold ZO.V6;rw[RX,Wl]
 have HA:Hid (T.ask x=⟨9,(T.V6 x.source).own,(T.V6 x.source).num,0,(T.V6 x.source).ss.getD x.want.toNat 0⟩):=rfl;obtain⟨j,hj⟩:=Rw hw.1;obtain⟨pv,sv,uv,Yn,XF⟩:=hR.Vv;obtain⟨P,Tj,ZW,TP⟩:=XF.Yj;have VM:k<P.length:=by rw[←Tj,Tx]at VM;exact VM
 have hlen:=ZW.len;have c1:=cell_of Yn 1;have HX:Hid (T.Yj.getD k UI=P[k].1):=by show _=_;rw[←Tj,Ui VM]
 have hr:=TP P[k] (OC VM);obtain⟨pa,pc,rfl,-,-⟩:=id ZW;obtain⟨g,off,e1,hc⟩:=Su ZW Zo;subst e1;obtain⟨d0,d1,d2,d3⟩:=hc k P[k] (Ve VM);rw[hj,HSD.o,HX.o]at hw;have RN:j<P[k].1.ss.length:=by omega
 obtain⟨g2,yV,cap2,GV,hlc,uz,lG,Yu⟩:=Nh hr Zo;have hx:=Yu j RN;have hl2:=hr.len;rw[GV]at d2;have HT:Hid (T.ask x=⟨9,P[k].1.own,P[k].1.num,0,P[k].1.ss.getD j 0⟩):=by show _=_;rw[HA.o,HSD.o,HX.o,hj];rfl
 have hg:g<w.heap.size:=by
  rcases Nat.lt_or_ge g w with h|h
  ·exact h
  ·simp[World.cell?,D_ h]at d0
 clear hR hs Yu hc hr TP Yn XF Tj ZW HSD HX RX HA hw;generalize T.ask x=TA at *
 obtain⟨x0,x1,x2,x3⟩:=x;dsimp only at *
 subst hj;generalize P[k].1.ss.getD j 0=xx at *
 generalize P[k].1.ss.length=xl at *
 generalize P[k].1.own=xo at *
 generalize P[k].1.num=xn at *
 generalize P[k].1.ZN=xm at *
 generalize P[k].2=xv at *
 generalize P.length=N at *
 have ZB:Hid (∀w',Below (w.heap.size+2) ((w.alloc (.cells (Qk x0 x1 j x3) 105)).alloc (.cells (Qh 0 0 0 0 0) 158)) w' →
   w'.cell? ⟨b,1,none⟩=some (.slice (some ⟨g,off,none⟩) N pc)∧w'.cell? ⟨w,1,none⟩=some (.int .i64 x1)∧w'.cell? ⟨g,off+k*4,none⟩=some (.int .i64 xn)∧w'.cell? ⟨g,off+k*4+1,none⟩=some (.int .i64 xo)∧w'.cell? ⟨g,off+k*4+2,none⟩=some (.slice (some ⟨g2,yV,none⟩) xl cap2)∧w'.cell? ⟨g,off+k*4+3,none⟩=some (.bool xm)∧Below (w.heap.size+2) ((w.alloc (.cells (Qk x0 x1 j x3) 105)).alloc (.cells (Qh 0 0 0 0 0) 158)) w'):=fun w' h=>by
  have h1:Below w w w':=(((YI _ _).alloc (Zw _) _).alloc Zi _).trans (h.mono Zo);exact⟨(h1.cell (p:=⟨b,1,none⟩) hb).trans c1,(h.cell (p:=⟨w,1,none⟩) T_).trans (cell_of (V4 w _ _).1 1),(h1.cell (p:=⟨g,off+k*4,none⟩) hg).trans d0,(h1.cell (p:=⟨g,off+k*4+1,none⟩) hg).trans d1,(h1.cell (p:=⟨g,off+k*4+2,none⟩) hg).trans d2,(h1.cell (p:=⟨g,off+k*4+3,none⟩) hg).trans d3,h⟩
 have KW:Hid (∀w',Below (w.heap.size+2) ((w.alloc (.cells (Qk x0 x1 j x3) 105)).alloc (.cells (Qh 0 0 0 0 0) 158)) w'→Below w w w'):=fun w' h=>(((YI _ _).alloc (Zw _) _).alloc Zi _).trans (h.mono Zo)
 have J2:Hid (∀w',Below (w.heap.size+2) ((w.alloc (.cells (Qk x0 x1 j x3) 105)).alloc (.cells (Qh 0 0 0 0 0) 158)) w'→w'.cell? ⟨g2,yV+j,none⟩=some (.int .u32 xx)∧w'.cell? ⟨w,2,none⟩=some (.int .i64 j)∧(w'.cell? ⟨w.heap.size+1,0,none⟩=some (.int .i64 0)∧w'.cell? ⟨w.heap.size+1,1,none⟩=some (.int .i64 0)∧w'.cell? ⟨w.heap.size+1,2,none⟩=some (.int .i64 0)∧w'.cell? ⟨w.heap.size+1,3,none⟩=some (.int .i64 0)∧w'.cell? ⟨w.heap.size+1,4,none⟩=some (.int .u32 0)) ∧
   (∀o,w'.frozen? ⟨w.heap.size+1,o,none⟩=false)):=fun w' h=>by
  have h1:Below w w w':=KW.o _ h;have hB:=fun o=>(h.cell (p:=⟨w.heap.size+1,o,none⟩) T_).trans (cell_of (V4 w _ _).2 o)
  refine⟨(h1.cell (p:=⟨g2,yV+j,none⟩) lG).trans hx,(h.cell (p:=⟨w,2,none⟩) T_).trans (cell_of (V4 w _ _).1 2),⟨hB 0,hB 1,hB 2,hB 3,hB 4⟩,fun o=>(h.frozen (p:=⟨w.heap.size+1,o,none⟩) T_).trans ?_⟩;simp only[World.frozen?,(V4 w _ _).2];simp
 have K0:Below (w.heap.size+2) ((w.alloc (.cells (Qk x0 x1 j x3) 105)).alloc (.cells (Qh 0 0 0 0 0) 158)) ((w.alloc (.cells (Qk x0 x1 j x3) 105)).alloc (.cells (Qh 0 0 0 0 0) 158)):=YI _ _;go_enter func99,ntmps99;go_wp2_with fail
 go_region_held3 (fun w'=>w'.cell? ⟨b,1,none⟩=some (.slice (some ⟨g,off,none⟩) N pc)∧w'.cell? ⟨w,1,none⟩=some (.int .i64 x1)∧w'.cell? ⟨g,off+k*4,none⟩=some (.int .i64 xn)∧w'.cell? ⟨g,off+k*4+1,none⟩=some (.int .i64 xo)∧w'.cell? ⟨g,off+k*4+2,none⟩=some (.slice (some ⟨g2,yV,none⟩) xl cap2)∧w'.cell? ⟨g,off+k*4+3,none⟩=some (.bool xm)∧Below (w.heap.size+2) ((w.alloc (.cells (Qk x0 x1 j x3) 105)).alloc (.cells (Qh 0 0 0 0 0) 158)) w')
  (first|(exact ZB.o _ WQ)|(exact ZB.o _ (Below.drew WQ))|(exact ZB.o _ (Heap.Below.alloc' WQ (le2 _ _ _) _))|(exact ZB.o _ (Heap.Below.alloc' (Below.drew WQ) (le2 _ _ _) _))|(exact ZB.o _ (Below.setCell (Below.setCell (Below.setCell (Below.setCell WQ Zi _) Zi _) Zi _) Zi _))|(exact ZB.o _ (Below.setCell (Below.setCell (Below.setCell (Below.setCell (Below.drew WQ) Zi _) Zi _) Zi _) Zi _))|go_keep)
  (first|(go_at_call 49;go_split_ands;(with_reducible refine Calls.mono (CB.o _ (KW.o _ WQ)) ?_);rintro e w2 ⟨rfl,Zb⟩;have Yp:=Heap.Below.call WQ (le2 _ _ _) Zb;obtain⟨LG,I8⟩:=SP Zb;have TY:=Zb.size)|fail)
 all_goals
  clear K0;obtain⟨-,-,-,-,-,-,Nz⟩:= ‹_∧_∧_∧_∧_∧_∧Below (w.heap.size+2) _ _›;obtain⟨y1,y2,⟨y3,y4,y5,y6,y7⟩,Wm⟩:=J2.o _ Nz;have z0:=Wm 0;have z1:=Wm 1;have z2:=Wm 2;have z3:=Wm 3;have z4:=Wm 4;have HBZ:=Zh Nz;have hj0:(0:Int)≤(j:Int):=n7 j;have hj1:(j:Int)<(xl:Int):=P6.2 RN;clear Nz Wm;go_wp2_with fail
  go_region
  go_wp2;refine VD (v:=VZ ⟨9,xo,xn,0,xx⟩) (by simp[results,results99,go_sem,VZ,y3,y4,y5,y6,y7]) rfl ⟨by rw[HT.o],?_⟩;exact((((((KW.o _ HBZ.o).setCell Zi _).setCell Zi _).setCell Zi _).setCell Zi _).setCell Zi _).drew
theorem NZ{α:Type}{p:α→Bool}{l:List α}:0≤findAt p l↔∃x∈l,p x=true:=by
 constructor
 ·intro h;obtain⟨k,hk,-,hp,-⟩:=XE h;exact⟨l[k],OC hk,hp⟩
 ·rintro⟨x,hx,hp⟩;unfold findAt;cases hf:l.findIdx? p with
  | none=>
   rw[List.findIdx?_eq_none_iff]at hf;have:=hf x hx;rw[hp]at this;cases this
  | some i=>exact n7 i
theorem Hm{α:Type}{l:List α}{k:Nat}{x:α}(hx:x∈l)(h:∀hk:k<l.length,l[k]≠x):x∈l.eraseIdx k:=by
 obtain⟨i,hi,rfl⟩:=List.getElem_of_mem hx;rw[List.mem_eraseIdx_iff_getElem];refine⟨i,hi,?_,rfl⟩;intro e;subst e;exact h hi rfl
theorem DN{T:ZO}{p n:Int}:0≤T.Y6 p n↔∃x∈T.ZY,x.peer=p∧x.source=n:=by
 unfold ZO.Y6;rw[NZ];simp
theorem Kk{T:ZO}{p n q m:Int}(WN:¬(q=p∧m=n))(h0:0≤T.Y6 p n)(h:0≤T.Y6 q m):0≤(T.WJ p n).Y6 q m:=by
 obtain⟨x,hx,hxq,hxm⟩:=DN.1 h;obtain⟨k,hk,RX,hp,-⟩:=XE h0;rw[DN];refine⟨x,?_,hxq,hxm⟩;unfold ZO.WJ;refine Hm hx fun Bb e=>?_
 have RX:T.Y6 p n=k:=RX;have:T.ZY[k]=x:=by rw[←e];congr 1;rw[RX,Wl]
 rw[this]at hp;simp at hp;exact WN ⟨Zo,Zo⟩
theorem Fp(n:Int):∀(l:List Nat) (p:Nat) (T:ZO),ZO.Yc n (l++[p]) T=((ZO.Yc n l T).1++[⟨3,p,n,0,0⟩,⟨2,p,n,0,0⟩],(ZO.Yc n l T).2.WJ p n)
 | [],p,T=>rfl
 | q :: l,p,T=>by
  show ZO.Yc n (q :: (l++[p])) T=_;unfold ZO.Yc;rw[Fp n l p];rfl
theorem Uh(n:Int):∀(l:List Nat) (T:ZO),(ZO.Yc n l T).2.Yj=T.Yj∧(ZO.Yc n l T).2.Zz=T.Zz∧(ZO.Yc n l T).2.ZY.length≤T.ZY.length∧(ZO.Yc n l T).1.length=2*l.length
 | [],T=>⟨rfl,rfl,Zw _,rfl⟩
 | q :: l,T=>by
  obtain⟨h1,h2,h3,h4⟩:=Uh n l (T.WJ q n);unfold ZO.Yc;refine⟨h1,h2,PX h3 (by unfold ZO.WJ;dsimp only;exact(List.eraseIdx_sublist _ _).length_le),?_⟩;dsimp only;rw[List.length_cons,List.length_cons,h4,List.length_cons];omega
theorem Cj(n:Int):∀(l:List Nat) (T:ZO) (q:Nat),l.Nodup→(∀p∈l,0≤T.Y6 (p:Int) n)→q ∉ l→0≤T.Y6 (q:Int) n→0≤(ZO.Yc n l T).2.Y6 (q:Int) n
 | [],T,q,_,_,_,h=>h
 | p :: l,T,q,hd,hl,hq,h=>by
  unfold ZO.Yc;dsimp only;rw[List.nodup_cons]at hd;have hp:=hl p (List.mem_cons_self ..);refine Cj n l (T.WJ p n) q hd.2 (fun r hr=>Kk (fun e=>hd.1 ?_) hp (hl r (List.mem_cons_of_mem _ hr))) (fun e=>hq (List.mem_cons_of_mem _ e)) (Kk (fun e=>hq ?_) hp h)
  ·have:r=p:=by omega
   rw[←this];exact hr
  ·have:q=p:=by omega
   rw[this];exact List.mem_cons_self ..
theorem I7{T:ZO}{n:Int}{p:Nat}:p∈T.Zp n↔1≤p∧p≤8∧0≤T.Y6 (p:Int) n:=by
 unfold ZO.Zp ZO.Vs;rw[Z1f,wI];constructor
 ·rintro⟨⟨q,hq,rfl⟩,h2⟩;rw[List.mem_range]at hq;exact⟨Zo,Zo,of_decide_eq_true h2⟩
 ·rintro⟨h1,h2,h3⟩;exact⟨⟨p-1,by rw[List.mem_range];omega,Zo⟩,Ww h3⟩
theorem Ii(T:ZO)(n:Int):(T.Zp n).Nodup:=by
 unfold ZO.Zp ZO.Vs;refine List.Pairwise.filter _ ?_;rw[List.pairwise_map];exact List.Pairwise.imp (fun h e=>h Zo) List.nodup_range
theorem Small.WJ{T:ZO}(h:T.Small)(p n:Int):(T.WJ p n).Small:=
 ⟨h.Zz,h.Yj,PX (List.eraseIdx_sublist _ _).length_le h.ZY⟩
theorem Small.Yc{T:ZO}(h:T.Small)(n:Int)(l:List Nat):(ZO.Yc n l T).2.Small:=by
 obtain⟨h1,h2,h3,-⟩:=Uh n l T;exact⟨by rw[h2];exact h.Zz,by rw[h1];exact h.Yj,PX h3 h.ZY⟩
theorem Small.Uc{T:ZO}(h:T.Small)(n:Int):(T.Uc n).Small:=⟨h.Zz,PX (List.eraseIdx_sublist _ _).length_le h.Yj,h.ZY⟩
theorem Small.Yo{T:ZO}(h:T.Small)(n:Int):(T.Yo n).2.Small:=Small.Uc (Small.Yc h n _) n
theorem L5(T:ZO)(n:Int):(T.Yo n).1.length≤16:=by
 have h1:=(Uh n (T.Zp n) T).2.2.2;have h2:=R9 T n 8;have h2:(T.Zp n).length≤8:=h2;show(ZO.Yc n (T.Zp n) T).1.length≤16;omega
theorem Sp(p:Int)(T:ZO):∀k,(ZO.ZL p T k).2.Yj=T.Yj∧(ZO.ZL p T k).2.Zz=T.Zz∧(T.Small→(ZO.ZL p T k).2.Small)∧(ZO.ZL p T k).1.length≤k
 | 0=>⟨rfl,rfl,id,Zw _⟩
 | k+1=>by
  obtain⟨h1,h2,h3,h4⟩:=Sp p T k;unfold ZO.ZL;dsimp only;split
  ·exact⟨h1,h2,fun h=>Small.WJ (h3 h) _ _,by dsimp only;rw[UG];simp;omega⟩
  ·exact⟨h1,h2,h3,Zo⟩
theorem Sq(p:Int)(T:ZO):∀k,(ZO.ZH p T k).2.Zz=T.Zz∧(T.Small→(ZO.ZH p T k).2.Small)∧(ZO.ZH p T k).1.length≤k*16
 | 0=>⟨rfl,id,Zw _⟩
 | k+1=>by
  obtain⟨h2,h3,h4⟩:=Sq p T k;unfold ZO.ZH;dsimp only;split
  ·refine⟨?_,fun h=>Small.Yo (h3 h) _,?_⟩
   ·dsimp only;show(ZO.Yc _ _ _).2.Zz=_;rw[(Uh _ _ _).2.1];exact h2
   ·dsimp only;rw[UG];have:=L5 (ZO.ZH p T k).2 ((k:Int)+1);omega
  ·exact⟨h2,h3,Zo⟩
theorem KU(p:Int)(T:ZO)(k:Nat):ZO.ZL p T (k+1)=if 0≤(ZO.ZL p T k).2.Y6 p ((k:Int)+1)then((ZO.ZL p T k).1++[⟨2,p,(k:Int)+1,0,0⟩],(ZO.ZL p T k).2.WJ p ((k:Int)+1))else ZO.ZL p T k:=rfl
theorem KY(p:Int)(T:ZO)(k:Nat):ZO.ZH p T (k+1)=if(ZO.ZH p T k).2.owner ((k:Int)+1)=p then((ZO.ZH p T k).1++((ZO.ZH p T k).2.Yo ((k:Int)+1)).1,((ZO.ZH p T k).2.Yo ((k:Int)+1)).2)else ZO.ZH p T k:=rfl
theorem JO{T:ZO}{n:Int}:0≤T.YV n↔∃x∈T.Yj,x.num=n:=by
 unfold ZO.YV;rw[NZ];simp
theorem F_{T:ZO}{n:Int}:0≤T.XD n↔∃x∈T.Zz,x.num=n:=by
 unfold ZO.XD;rw[NZ];simp
theorem qM{T:ZO}{n p:Int}(hp:p≠0)(h:T.owner n=p):0≤T.YV n:=by
 unfold ZO.owner at h;split at h
 ·exact absurd h.symm hp
 ·omega
end Go.Proofs.Rm
namespace Go.Proofs.Rm
open Go.RowKit Go.Proofs.Heap Go.Proofs.Mem
theorem ZM.grown{w w':World}{b:Nat}{T:ZO}(h:ZM w b T){base:Nat}{size:Nat}{vo:Value}{m:Nat}{ys:List Value}(ho:w.ownsRow base 158 size vo m ys)(hg:w.grownBy w' vo.ownBlock)(hb:b<base):ZM w' b T:=by
 have OT:=h.lt;obtain⟨pv,sv,uv,hc,h1,⟨ms,h2,h3,h4⟩,h5⟩:=h.Vv;exact⟨pv,sv,uv,by rw[hg.block b OT (fun e=>by have:=YL ho b e.symm;omega)];exact hc,Row.grown h1 ho hg Zd,⟨ms,h2,Row.grown h3 ho hg Zd,fun m hm=>Row.grown (h4 m hm) ho hg Zd⟩,Row.grown h5 ho hg Zd⟩
theorem SL(l:List (Wd×Value)):(l.flatMap Zg).length=l.length*4:=XN Zg 4 (fun _=>rfl) l
theorem Ph{l:List (Wd×Value)}(h:∀m∈l,∃a n c,m.2 = .slice a n c):∀u∈l.flatMap Zg,u.oneCell'=true:=by
 intro u hu;obtain⟨x,hx,hu⟩:=List.mem_flatMap.1 hu;obtain⟨a,n,c,e⟩:=h x hx;obtain⟨x,v⟩:=x;dsimp only at e;subst e;exact La x a n c u hu
theorem Fv{l:List Nat}{k:Nat}(h:k<l.length):l.getD k 0∈l:=by
 rw[Q_,Ve h];exact OC h
theorem vT{l:List Nat}{k:Nat}(h:k<l.length):l.take (k+1)=l.take k++[l.getD k 0]:=by
 rw[List.take_succ_eq_append_getElem h,Q_,Ve h];rfl
theorem uY{l:List Nat}(h:l.Nodup){k:Nat}(hk:k<l.length):l.getD k 0 ∉ l.take k:=by
 rw[Q_,Ve hk];intro hm;obtain⟨i,hi,e⟩:=List.getElem_of_mem hm;rw[SY]at hi;rw[List.getElem_take]at e;exact(List.pairwise_iff_getElem.1 h) i k Zo hk Zo e
theorem Ps(b:Nat)(T:ZO)(n:Int)(w:World)(hR:ZM w b T)(Vl:T.Small)(hs:0≤T.YV n) :
  Calls prog 98 (Qj (some ⟨b,0,none⟩) n) w fun e w'=>(∃v,e = .returned v∧YD w' v (T.Yo n).1)∧ZM w' b (T.Yo n).2∧Fr w (· = b) w w':=by
 have hb:=hR.lt;have CH:=Zh (IP b T n w hR);have HLL:(T.Zp n).length≤8:=R9 T n 8;have HND:=Zh (Ii T n);have HMEM:Hid (∀p∈T.Zp n,0≤T.Y6 (p:Int) n):=fun p hp=>(I7.1 hp).2.2
 have HES:Hid (T.Yo n=((ZO.Yc n (T.Zp n) T).1,(ZO.Yc n (T.Zp n) T).2.Uc n)):=rfl;have HR:=Zh hR;have LY:=Zh Vl;have HSA:=Zh hs;clear hR Vl hs;generalize T.Zp n=L at *
 go_enter func98,ntmps98;go_wp2_with fail
 (with_reducible refine CH.o.mono ?_)
 rintro e w1 ⟨⟨lv,rfl,ZW⟩,YZ⟩;have Vc:=Zh ZW;have IH:Hid (Fr w (· = b) w w1):=Fr.Z6 _ YZ;have JZ:=Zh (HR.o.below YZ);obtain⟨la,uQ,rfl,-,-⟩:=id ZW;clear YZ ZW;go_wp2_with fail
 go_loopw [5,13] (fun v i w'=>∃k:Nat,k≤L.length∧i = .int .i64 k∧Fr w (· = b) w w'∧Row w' 3 (.slice la L.length uQ) L.length (ints L)∧ZM w' b (ZO.Yc n (L.take k) T).2∧w'.ownsRow w 158 5 v (ZO.Yc n (L.take k) T).1.length ((ZO.Yc n (L.take k) T).1.flatMap Z7)) (fun _ i _=>L.length-(intOf i).toNat)
 case atStart=>exact⟨0,Zo,rfl,IH.o,Vc.o,JZ.o,TV _ _ _ _⟩
 case round=>
  obtain⟨k,hk,rfl,Wm,ZW,UY,YG⟩:=hrel;clear IH JZ Vc;have T8:=Zh Wm;have Vc:=Zh ZW;have Vm:=Zh UY;have Yk:=Zh YG;have Uk:=Wm.size;clear Wm YG UY;by_cases VM:k<L.length
  ·obtain⟨g,off,cap,e1,hg,Yu⟩:=S7 ZW Zo;cases e1;have hc:=Yu k VM;have Ak:=(Uh n (L.take k) T).2.2.2;rw[SY]at Ak
   have HS:Hid (ZO.Yc n (L.take (k+1)) T=((ZO.Yc n (L.take k) T).1++[⟨3,(L.getD k 0:Nat),n,0,0⟩,⟨2,(L.getD k 0:Nat),n,0,0⟩],(ZO.Yc n (L.take k) T).2.WJ (L.getD k 0:Nat) n)):=by
    show _=_;rw[vT VM,Fp]
   have ce:=Lv b (ZO.Yc n (L.take k) T).2 (L.getD k 0:Nat) n wr Vm.o (Small.Yc LY.o n _) (Cj n _ T _ (List.Nodup.sublist (List.take_sublist _ _) HND.o) (fun p hp=>HMEM.o p (List.mem_of_mem_take hp)) (uY HND.o VM) (HMEM.o _ (Fv VM)));unfold VZ at ce;dsimp only at ce;have CE:=Zh ce;clear ce Yu ZW;generalize L.getD k 0=p at *
   generalize ZO.Yc n (L.take k) T=G at *
   go_wp2_with (first|(go_at_call 100;(with_reducible refine CE.o.mono ?_);rintro e w2 ⟨rfl,OZ,R_⟩;have xB:=Zh OZ;have T4:=Zh R_;have qq:=R_.size;clear OZ R_)|(at_builtin;refine YO rfl (.tmp 17) (.tmp 25) 98 rfl w Xy _ G.1.length (G.1.flatMap Z7) rfl ?a1 _ 2 ([⟨3,p,n,0,0⟩,⟨2,p,n,0,0⟩].flatMap Z7) rfl ?a2 rfl ?a4 ?a5 ?a6 ?a7 (fun v' w3 HO HG=>?_)))
   case a1=>exact(Wv Yk.o T4.o (fun k hk=>by omega)).alloc _
   case a2=>exact Yw _ _ 2 _ ([⟨3,p,n,0,0⟩,⟨2,p,n,0,0⟩].flatMap Z7) Zd rfl
   case a4=>exact X4 _
   case a5=>omega
   case a6=>omega
   case a7=>simp;omega
   go_roundw
   case rel=>
    have Sa:=(Wv Yk.o T4.o (fun k hk=>by omega)).alloc (.cells ([⟨3,p,n,0,0⟩,⟨2,p,n,0,0⟩].flatMap Z7).toArray 158);have WX:=Z' w2 (.cells ([⟨3,p,n,0,0⟩,⟨2,p,n,0,0⟩].flatMap Z7).toArray 158);refine⟨k+1,Zo,Zn,?_,?_,?_,?_⟩
    ·exact km
    ·exact Row.grown ((Vc.o.fr T4.o (Zw _) (Vm.o.EP Zd)).below WX) Sa HG.o Zd
    ·rw[HS.o];exact ZM.grown (xB.o.below WX) Sa HG.o hb
    ·rw[HS.o];dsimp only;rw[UG,OD];exact HO.o
   case measure=>simp[intOf];omega
  ·have hT:L.take k=L:=EM Zo;rw[hT]at Yk Vm;have wK:=Uh n L T;have jO:=Small.Yc LY.o n L;have g_:0≤(ZO.Yc n L T).2.YV n:=by rw[JO,wK.1,←JO];exact HSA.o
   clear hT ZW wK;generalize ZO.Yc n L T=G at *
   obtain⟨m,hm,OW,-,-⟩:=XE g_;have OW:G.2.YV n=m:=OW;have cb:=VV b G.2 n wr Vm.o;rw[OW]at cb;have CB:=Zh cb;have HE:Hid (G.2.Uc n={G.2 with Yj:=G.2.Yj.take m++G.2.Yj.drop (m+1)}):=by show _=_;unfold ZO.Uc;rw[OW,Wl,List.eraseIdx_eq_take_drop_succ]
   have Us:=jO.Yj;unfold small at Us;clear cb OW g_ jO;go_wp2_with fail
   (with_reducible refine CB.o.mono ?_)
   rintro e V ⟨rfl,Nq⟩;have Mn:=Zh (Vm.o.below Nq);have HFV:Hid (Fr w (· = b) w V):=T8.o.trans ((Fr.Z6 _ Nq).mono Uk (fun _ _ h=>h));have HOV:=Zh (Zv Yk.o Nq);have qu:w.heap.size≤V.heap.size:=PX Uk Nq.size;clear Nq CB;obtain⟨pv,sv,uv,Yn,XF⟩:=Mn.o.Vv;obtain⟨P,Tj,Sb,TP⟩:=XF.Yj;have Mj:m<P.length:=by rw[←Tj,Tx]at hm;exact hm
   have hPl:P.length≤100000:=by rw[←Tj,Tx]at Us;exact Us
   have eV:Hid (∀x∈P,∃a n c,x.2 = .slice a n c):=fun x hx=>by obtain⟨a,c,h,-,-⟩:=TP x hx;exact⟨a,_,c,h⟩
   obtain⟨a,cap,rfl,OX,uz,-,-⟩:=id Sb;obtain⟨a1,run1,zt,-⟩:=Sk UX a P.length cap m Zo;obtain⟨a2,ny,zu,-⟩:=SI UX a P.length cap (m+1) Zo OX;rw[show(((m+1:Nat):Int))=(m:Int)+1 by omega]at ny
   have xE:Hid (∀w',Below V V w'→Row w' 108 (.slice a1 m cap) m ((P.take m).flatMap Zg)):=fun w' h=>by
    have:=zt w' _ Zo (SL _) (Sb.below h)
    rwa[I3 Zg 4 (fun _=>rfl)]at this
   have BX:Hid (∀w',Below V V w'→Row w' 108 (.slice a2 (P.length-(m+1)) (cap-(m+1))) (P.length-(m+1)) ((P.drop (m+1)).flatMap Zg)):=fun w' h=>by
    have:=zu w' _ (SL _) (Sb.below h)
    rwa[I2 Zg 4 (fun _=>rfl)]at this
   have E0:Hid (((P.take m).flatMap Zg).length=m*4):=by show _=_;rw[SL,SY,Nat.min_eq_left Zo]
   have rN:Hid (((P.drop (m+1)).flatMap Zg).length=(P.length-(m+1))*4):=by show _=_;rw[SL,Ra]
   have HL3:Hid ((P.take m++P.drop (m+1)).length=m+(P.length-(m+1))):=by show _=_;rw[UG,SY,Ra,Nat.min_eq_left Zo]
   have Ao:Hid (∀u∈(P.take m).flatMap Zg,u.oneCell'=true):=Ph fun x hx=>eV.o x (List.mem_of_mem_take hx)
   have Nl:Hid (∀u∈(P.drop (m+1)).flatMap Zg,u.oneCell'=true):=Ph fun x hx=>eV.o x (List.mem_of_mem_drop hx)
   have HC:Hid (∀w',Below V V w'→w'.cell? ⟨b,1,none⟩=some (.slice a P.length cap)):=fun w' h=>(h.cell (p:=⟨b,1,none⟩) T_).trans (cell_of Yn 1)
   have I8:=Mn.o.YB 1;have HFZ:Hid (∀w',Below V V w'→w'.frozen? ⟨b,1,none⟩=false):=fun w' h=>(h.frozen (p:=⟨b,1,none⟩) T_).trans I8
   have eI:Hid ((P.take m++P.drop (m+1)).map Prod.fst=G.2.Yj.take m++G.2.Yj.drop (m+1)):=by show _=_;rw[Nv,List.map_take,List.map_drop,Tj]
   have Av:Hid (∀w',Below V V w'→∀x∈P.take m++P.drop (m+1),Row w' 66 x.2 x.1.ss.length (YN x.1.ss)):=fun w' h x hx=>by
    refine(TP x ?_).below h;rcases EN.1 hx with hx|hx
    ·exact List.mem_of_mem_take hx
    ·exact List.mem_of_mem_drop hx
   have qd:m+1≤P.length:=Mj;have iX:IntKind.i64.wrap ((m:Int)+1)=(m:Int)+1:=Te _ Zo;have gI:=HC.o V (YI _ _);have Nw:Below V V V:=YI _ _;clear I8 XF Yn Sb zt zu TP Tj Mj hm Us;generalize P.length=N at *
   go_wp2_with fail
   go_region_law (first|(refine Ze Zr (.const (.slice none 0 0)) (.tmp 37) 48 Zr V UX (.slice none 0 0) 0 [] Zr (TV _ _ _ _) (.slice a1 m cap) m ((P.take m).flatMap Zg) Zr ?_ E0.o Ao.o Zo Zo ?_ ?_;(exact xE.o _ B6);(exact Below.size B6);intro v1 w2 T9 Ot;have Yp:Below V V w2:=Below.grown B6 Ot.o (Below.size B6) (YL (TV V _ 108 4));have c2:=HC.o _ Yp)|(refine Ze Zr (.tmp 38) (.tmp 45) 48 Zr V UX v1 (0+m) ([]++(P.take m).flatMap Zg) Zr ?_ (.slice a2 (N-(m+1)) (cap-(m+1))) (N-(m+1)) ((P.drop (m+1)).flatMap Zg) Zr ?_ rN.o Nl.o Zo Zo ?_ ?_;(first|exact T9.o|exact Xb T9.o);(exact BX.o _ B6);(exact Below.size B6);intro v2 w3 Po JY;have Wf:Below V V w3:=Below.grown B6 JY.o (Below.size B6) (YL T9.o);have c3:=HC.o _ Wf;have f3:=HFZ.o _ Wf;obtain⟨va,vc,hv⟩:=Wu Po.o;subst hv))
   all_goals
    go_wp2;go_ret;have ZW:=Row.Z4 Po.o;rw[Hz,←OD,PW]at ZW;have Ej:ZM w3 b G.2:=Mn.o.below Wf;have M0:m+(N-(m+1))=(P.take m++P.drop (m+1)).length:=by rw[HL3.o]
    rw[M0]at ZW;have yE:=Ej.G7 _ eI.o ZW (Av.o _ Wf);rw[←M0]at yE;refine⟨⟨_,rfl,?_⟩,?_,?_⟩
    ·rw[HES.o];exact(((Row.Z4 HOV.o).below Wf).fr ((Fr.refl w3 (· = b) w3).setAt _ _) (Zw _) (Ej.EP Zd))
    ·rw[HES.o];dsimp only;rw[HE.o];exact yE
    ·exact(HFV.o.trans ((Fr.Z6 _ Wf).mono qu (fun _ _ h=>h))).setAt _ _
end Go.Proofs.Rm
