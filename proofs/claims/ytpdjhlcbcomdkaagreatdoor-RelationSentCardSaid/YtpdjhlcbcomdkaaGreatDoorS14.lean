import Derived.Test.YtpdjhlcbcomdkaaGreatDoorS13
set_option linter.all false
set_option maxRecDepth 100000
set_option maxHeartbeats 16000000
open Go Go.Q Go.Qr Go.Proofs.Tryz Go.RowKit
namespace Go.Proofs.By
def ca(n:Nat)(f:Nat→Value):Array Value:=((List.range (n+1)).map f).toArray
def bI{n:Nat}{f:Nat→Value}{j:Nat}(h:j≤n):(ca n f)[j]?=some (f j):=by
 unfold ca;rw[Ss,List.getElem?_map,List.getElem?_range (Nat.lt_succ_of_le h)];rfl
def jP(n:Nat)(f:Nat→Value)(i:Nat)(v:Value):(ca n f).setIfInBounds i v=ca n fun j=>if j=i then v else f j:=by
 unfold ca;rw[List.setIfInBounds_toArray]
 congr 1
 apply List.ext_getElem
 ·simp
 ·intro j h1 h2;rw[List.getElem_set,List.getElem_map,List.getElem_map,List.getElem_range];by_cases h:i=j
  ·rw[ZU h,ZU h.symm]
  ·rw[Z3 h,Z3 (fun q=>h q.symm)]
def eG(n:Nat)(z:Value):madeCells #[z] (n+1)=ca n fun _=>z:=by
 unfold madeCells ca;apply Array.ext
 ·simp
 ·intro i h1 h2;simp[Nat.mod_one]
def made{P:Program}(n:Nat)(hn:n≤256){t e:TypeId}{z:Value}{b:Nat}(hz:z.cells=#[z])(ht:P.underlying t=some (.slice e))(hi:(P.info? e).map (fun i=>(i.zero,i.size,i.bytes))=some (some z,1,b))(hb:b≤8)(w:World):(Instr.makeSlice t (.int .i64 ((n:Int)+1)) (.int .i64 ((n:Int)+1))).run P w = .ok (.slice (some ⟨w,0,none⟩) (n+1) (n+1)) (w.alloc (.cells (ca n fun _=>z) e)):=by
 cases hI:P.info? e with
 | none=>rw[hI]at hi;cases hi
 | some i=>
  rw[hI]at hi;injection hi with hi
  injection hi with q1 q2
  injection q2 with q2 q3
  have h8:(i.bytes:Int)*((n:Int)+1)≤8*257:=Int.mul_le_mul Zo Zo Zo Zo;have:=run_make w t e i z ht hI q1 .i64 .i64 ((n:Int)+1) ((n:Int)+1) Zo Zo Zo Zo;rw[hz,q2,show((n:Int)+1).toNat=n+1 by omega,Nat.mul_one,eG]at this;exact this
def JX{n:Nat}{f g:Nat→Value}(h:∀j,j≤n→f j=g j):ca n f=ca n g:=by
 unfold ca
 congr 1
 exact List.map_congr_left fun j hj=>h j (Nat.le_of_lt_succ (List.mem_range.1 hj))
structure CU(w w':World)(lc:Array Value)(gc go n:Nat)(f:Nat→Int)(g:Nat→Bool):Prop where
 cur:w'.heap[gc]?=some (.cells (ca n fun j=> .int .i64 (f j)) 3)
 opn:w'.heap[go]?=some (.cells (ca n fun j=> .bool (g j)) 4)
 ne:gc≠go
 lf:w'.heap[w.heap.size]?=some (.cells lc 59)
 Za:Below w w w'
 hc:w.heap.size<gc
 ho:w.heap.size<go
section
variable {w w1 w':World} {lc:Array Value} {gc go n:Nat} {f f':Nat→Int} {g g':Nat→Bool}
def CU.below(h:CU w w1 lc gc go n f g)(hb:Below w1 w1 w'):CU w w' lc gc go n f g:=⟨(hb.block _ (ZY h.cur)).trans h.cur,(hb.block _ (ZY h.opn)).trans h.opn,h.ne,(hb.block _ (ZY h.lf)).trans h.lf,h.Za.trans (hb.mono h.Za.size),h.hc,h.ho⟩
def CU.congr(h:CU w w1 lc gc go n f g)(h1:∀j,j≤n→f j=f' j)(h2:∀j,j≤n→g j=g' j):CU w w1 lc gc go n f' g':=
 ⟨h.cur.trans (by rw[JX fun j hj=>by rw[h1 j hj]]),h.opn.trans (by rw[JX fun j hj=>by rw[h2 j hj]]),h.ne,h.lf,h.Za,h.hc,h.ho⟩
def CU.setC(h:CU w w1 lc gc go n f g)(i:Nat)(v:Int)(h1:∀j,j≤n→(if j=i then v else f j)=f' j):CU w (w1.setCell ⟨gc,i,none⟩ (.int .i64 v)) lc gc go n f' g:=
 ⟨(heap_setCell_same _ _ _ _ _ _ h.cur).trans (by rw[jP,JX (g:=fun j=> .int .i64 (f' j)) fun j hj=>by rw[←h1 j hj];split <;> rfl]),(heap_setCell_other _ _ _ _ h.ne.symm).trans h.opn,h.ne,(heap_setCell_other _ _ _ _ (Nat.ne_of_lt h.hc)).trans h.lf,h.Za.setCell (jD h.hc) _,h.hc,h.ho⟩
def CU.setO(h:CU w w1 lc gc go n f g)(i:Nat)(v:Bool)(h1:∀j,j≤n→(if j=i then v else g j)=g' j):CU w (w1.setCell ⟨go,i,none⟩ (.bool v)) lc gc go n f g':=
 ⟨(heap_setCell_other _ _ _ _ h.ne).trans h.cur,(heap_setCell_same _ _ _ _ _ _ h.opn).trans (by rw[jP,JX (g:=fun j=> .bool (g' j)) fun j hj=>by rw[←h1 j hj];split <;> rfl]),h.ne,(heap_setCell_other _ _ _ _ (Nat.ne_of_lt h.ho)).trans h.lf,h.Za.setCell (jD h.ho) _,h.hc,h.ho⟩
def CU.atC(h:CU w w1 lc gc go n f g){j:Nat}(hj:j≤n):w1.cell? ⟨gc,j,none⟩=some (.int .i64 (f j)):=by rw[cell_of h.cur j,bI hj]
def CU.atO(h:CU w w1 lc gc go n f g){j:Nat}(hj:j≤n):w1.cell? ⟨go,j,none⟩=some (.bool (g j)):=by rw[cell_of h.opn j,bI hj]
end
def PO(S:Nat→VS)(m j:Nat):Int:=if j<m then(S j).cur else -1
def RQ(O:Nat→Bool)(m j:Nat):Bool:=decide (j<m)&&O j
def xD(S:Nat→VS)(m:Nat)(v:Int)(h:(S m).cur=v)(j:Nat):(if j=m then v else PO S m j)=PO S (m+1) j:=by
 unfold PO;by_cases e:j=m
 ·rw[ZU e,e,ZU Zo,h]
 ·rw[Z3 e];by_cases e2:j<m
  ·rw[ZU e2,ZU Zo]
  ·rw[Z3 e2,Z3 Zo]
def IG(S:Nat→VS)(m:Nat)(h:(S m).cur=-1)(j:Nat):PO S m j=PO S (m+1) j:=by
 rw[←xD S m _ h];by_cases e:j=m
 ·rw[ZU e,e];unfold PO;rw[Z3 Zo]
 ·rw[Z3 e]
def yG(O:Nat→Bool)(m:Nat)(v:Bool)(h:O m=v)(j:Nat):(if j=m then v else RQ O m j)=RQ O (m+1) j:=by
 unfold RQ;by_cases e:j=m
 ·rw[ZU e,e,WV Zo,h];rfl
 ·rw[Z3 e,show decide (j<m)=decide (j<m+1)from decide_eq_decide.2 Zo]
def I3(O:Nat→Bool)(m:Nat)(h:O m=false)(j:Nat):RQ O m j=RQ O (m+1) j:=by
 rw[←yG O m _ h];by_cases e:j=m
 ·rw[ZU e,e];unfold RQ;rw[WH Zo];rfl
 ·rw[Z3 e]
def cursR{w:World}{k:Nat}{L:List WR}(h:vR w k L)(x:Zt)(hx:x∈Zg L L.length L.length):Calls prog 58 (Qi (some ⟨k,0,none⟩) (Z5 x).toArray) w fun e w'=>(∃gc go,e = .returned (.tuple #[.slice (some ⟨gc,0,none⟩) (L.length+1) (L.length+1),.slice (some ⟨go,0,none⟩) (L.length+1) (L.length+1)])∧∃m:Nat,x.fin<m∧CU w w' (Z5 x).toArray gc go L.length (PO (ZL L x) m) (RQ (Vk L x) m))∧Below w w w':=by
 have hLL:=h.1;have h3:=Uh L L.length L.length (Zq _) x hx;have h4:=NQ L L.length (Zq _) x hx;obtain⟨a,ha⟩:=RV h3.1;obtain⟨f,hf⟩:=RV (show 0≤x.fin by omega);have hp:x.peer≠0:=by omega
 have gY:∀m:Nat,a<m→m≤f→(decide (x∈Zg L L.length L.length)&&there x m)=true:=fun m h1 h2=>by unfold there;rw[WV hx,WV Zo,WV Zo];rfl
 have kE:∀j:Nat,Wk x j=true↔a<j∧j<f:=fun j=>by unfold Wk;rw[UN,Su,Su];omega
 have CD:=Zh (fun(w':World) (hb:Below w w w') (j:Nat) (hj:j<L.length) (kd pr:Int)=>(h.below hb).done hj kd pr x.source);have CP:=Zh (fun(w':World) (hb:Below w w w') (j:Nat) (h1:a<j) (h2:j<f)=>cI (h.below hb) x ((kE j).2 ⟨h1,h2⟩) Zo)
 have CQ:Hid (∀(w':World),Below w w w'→∀j:Nat,a<j→j≤f→Calls prog 34 (Qu (some ⟨k,0,none⟩) (Z5 x).toArray (j:Int)) w' fun e w2=>e = .returned (.bool (ZL L x j).quiet)∧Below w' w' w2):=fun w' hb j h1 h2=>by
  have hq:=mg (h.below hb) x (j:Int);obtain⟨-,b,-,e,-,-,-,-,-,-,-,h9⟩:=Kj (gY j h1 h2);rw[h9,←Int.ofNat.inj e]at hq;exact hq
 have CW:Hid (∀(w':World),Below w w w'→∀j:Nat,a<j→j≤f→Calls prog 32 (Qu (some ⟨k,0,none⟩) (Z5 x).toArray (j:Int)) w' fun e w2=>e = .returned (.int .i64 (ZL L x j).want)∧Below w' w' w2):=fun w' hb j h1 h2=>by
  have hq:=wantR (h.below hb) x (j:Int);obtain⟨-,b,-,e,-,-,-,-,-,h9,-,-⟩:=Kj (gY j h1 h2);rw[h9,←Int.ofNat.inj e]at hq;exact hq
 have K1:Hid (∀m j,j<m→a<j→j<f→(Zf L j 10 x.peer x.source=true∨Zf L j 8 0 x.source=true)→(∀i,j<i→i<m→Vk L x i=false∧Zf L i 10 x.peer x.source=false∧Zf L i 8 0 x.source=false)→(ZL L x m).cur=-1):=fun m j h1 h2 h3 h4 h5=>eI hp h1 (h4.imp (fun q=>⟨(kE j).2 ⟨h2,h3⟩,q⟩) id) (fun i q1 q2=>⟨(h5 i q1 q2).1,fun _=>(h5 i q1 q2).2.1,(h5 i q1 q2).2.2⟩)
 have K2:Hid (∀m j,j<m→Vk L x j=true→(∀i,j<i→i<m→Vk L x i=false∧Zf L i 10 x.peer x.source=false∧Zf L i 8 0 x.source=false)→(ZL L x m).cur=(VQ L j).ds.ZC):=fun m j h1 h2 h5=>by
  have hk:(Z6 L j).XR.kind=1:=by unfold Vk YU at h2;simp only[UN,Su]at h2;exact h2.1.1.2
  rw[(Fb hk).1];exact jQ hp h1 h2 (fun i q1 q2=>⟨(h5 i q1 q2).1,fun _=>(h5 i q1 q2).2.1,(h5 i q1 q2).2.2⟩)
 have K0:Hid (∀m,m≤a+1→(ZL L x m).cur=-1):=fun m h1=>BV hp (fun j hj=>by cases e:Wk x (j:Int)with|false=>rfl|true=>exact absurd ((kE j).1 e) Zo)
 have K3:Hid (∀m,a<m→(∀i,a<i→i<m→Vk L x i=false∧Zf L i 10 x.peer x.source=false∧Zf L i 8 0 x.source=false)→(ZL L x m).cur=-1):=fun m h1 h5=>(JZ hp h1 (fun i q1 q2=>⟨(h5 i q1 q2).1,fun _=>(h5 i q1 q2).2.1,(h5 i q1 q2).2.2⟩)).trans (K0.o _ (Zq _))
 have KO:Hid (∀m,¬(a<m∧m<f)→Vk L x m=false):=fun m h1=>by
  unfold Vk YU;cases e:Wk x (m:Int)with
  | false=>rfl
  | true=>exact absurd ((kE m).1 e) h1
 have KV:Hid (∀m,Vk L x m=(YU L x m&&((!(ZL L x m).quiet)&&((VQ L m).ds.key&&(VQ L m).ds.start&&((VQ L m).ds.ZC==(ZL L x m).want)&&((ZL L x m).cur !=(ZL L x m).want))))):=fun m=>by
  have hb:∀a b c:Int,((a==b) && !(a==c))=((a==b)&&(c !=b)):=fun a b c=>by rw[Bool.eq_iff_iff];simp;omega
  cases e:YU L x m with
  | false=>unfold Vk;rw[e];rfl
  | true=>
   have hk:(Z6 L m).XR.kind=1:=by unfold YU at e;simp only[UN,Su]at e;exact e.1.2
   rw[(Fb hk).1,Bool.and_assoc,←hb];unfold Vk Wx;rw[e,Bool.true_and,Bool.true_and,Bool.and_assoc,Bool.and_assoc,Bool.and_assoc,Bool.and_assoc];rfl
 obtain⟨g,o,c,g1,o1,c1,g2,o2,c2,lC⟩:=h.cells Zo;have HY:=Zh lC;have hfL:f≤L.length:=by omega
 have haf:a<f:=by omega
 clear h hx h3 h4 hp gY kE lC;generalize ZL L x=S at *;generalize Vk L x=O at *;generalize YU L x=P at *;obtain⟨xp,xs,xb,xf⟩:=x;dsimp only[Z5]at *;subst ha;subst hf;have hz:=Z9 w (.cells (Qb xp xs (a:Int) (f:Int)) 59);have HB:Hid (Below w w (w.alloc (.cells (Qb xp xs (a:Int) (f:Int)) 59))):=Z' w _;have HZ:=Zh hz;have T8:w.heap.size<(w.alloc (.cells (Qb xp xs (a:Int) (f:Int)) 59)).heap.size:=by rw[size_alloc];omega
 have y0:=(HY.o.below HB.o).c0;have mk1:=fun w=>made L.length hLL rfl underlying72 (z:= .int .i64 0) Zk (Zq 8) w
 have mk2:=fun w=>made L.length hLL rfl underlying122 (z:= .bool false) Zk (by decide:1≤8) w
 clear hz;go_enter func58,ntmps58;go_upto_region 1 with fail
 generalize w.alloc (.cells (Qb xp xs (a:Int) (f:Int)) 59)=w1 at *;have y00:=ZM y0 (Z' w1 (.cells (ca L.length fun _=> .int .i64 0) 3));go_upto_region 3 with fail
 have vJ:Hid (CU w ((w1.alloc (.cells (ca L.length fun _=> .int .i64 0) 3)).alloc (.cells (ca L.length fun _=> .bool false) 4)) (Qb xp xs (a:Int) (f:Int)) w1 (w1.heap.size+1) L.length (fun _=>0) (fun _=>false)):=by
  have h1:=Z' w1 (.cells (ca L.length fun _=> .int .i64 0) 3);have h2:=Z' (w1.alloc (.cells (ca L.length fun _=> .int .i64 0) 3)) (.cells (ca L.length fun _=> .bool false) 4);have h3:=Z9 (w1.alloc (.cells (ca L.length fun _=> .int .i64 0) 3)) (.cells (ca L.length fun _=> .bool false) 4);rw[size_alloc]at h2 h3;exact⟨(h2.block _ (Nat.lt_succ_self _)).trans (Z9 w1 _),h3,Zo,((h1.trans (h2.mono (JV _))).block _ T8).trans HZ.o,HB.o.trans ((h1.trans (h2.mono (JV _))).mono HB.o.size),T8,Zo⟩
 clear mk1 mk2 y0 y00 HZ HB T8;generalize((w1.alloc (.cells (ca L.length fun _=> .int .i64 0) 3)).alloc (.cells (ca L.length fun _=> .bool false) 4))=w3 at *;generalize w1.heap.size+1=go at *;generalize w1.heap.size=gc at *;go_wp2_with fail
 go_loopw [8,29] (fun s8 s29 w'=>∃i:Nat,i≤L.length+1∧s29 = .int .i64 (i:Int)∧CU w w' (Qb xp xs (a:Int) (f:Int)) gc go L.length (fun j=>if j<i then -1 else 0) (fun _=>false)) (fun _ s29 _=>L.length+1-(intOf s29).toNat)
 case atStart=>exact⟨0,Zo,rfl,vJ.o.congr (fun j _=>rfl) (fun _ _=>rfl)⟩
 case round=>
  obtain⟨i,hi,rfl,O8⟩:=hrel;have cT:=Zh O8;by_cases GD:i<L.length+1
  ·have z:=O8.atC (j:=i) Zo;have fz:=ZP O8.cur i;have hiI:(i:Int)<(L.length:Int)+1:=by omega
   have hiN:(i:Int)<((L.length+1:Nat):Int):=by omega
   clear O8;go_wp2_with fail
   go_roundw
   case rel=>exact⟨i+1,Zo,Zn,cT.o.setC i (-1) (fun j _=>by
    by_cases e:j=i
    ·rw[ZU e,ZU Zo]
    ·rw[Z3 e];by_cases e2:j<i <;> simp[e2] <;> omega)⟩
   case measure=>simp[intOf];omega
  ·have hii:i=L.length+1:=by omega
   subst hii
   have Gt:Hid (CU w wr (Qb xp xs (a:Int) (f:Int)) gc go L.length (PO S (a+1)) (RQ O (a+1))):=O8.congr (fun j hj=>by
    rw[ZU Zo];unfold PO;split
    ·rw[K0.o j Zo]
    ·rfl) (fun j hj=>by
    unfold RQ;by_cases e:j<a+1
    ·rw[KO.o j Zo,Bool.and_false]
    ·rw[WH e];rfl)
   have x2:wr.cell? ⟨w,2,none⟩=some (.int .i64 (a:Int)):=Zc O8.lf 2 rfl;have hii:¬(((L.length:Int)+1)<((L.length:Int)+1)):=by omega
   clear O8 cT;go_wp2_with fail
   go_loopw [9,10,12] (fun s9 qF s12 w'=>∃m:Nat,a<m∧m≤f+1∧s9 = .int .i64 (m:Int)∧CU w w' (Qb xp xs (a:Int) (f:Int)) gc go L.length (PO S m) (RQ O m)) (fun s9 _ _ _=>f+1-(intOf s9).toNat)
   case atStart=>exact⟨a+1,Zo,Zo,Zn,Gt.o⟩
   case round=>
    obtain⟨m,ham,hmf1,rfl,O8⟩:=hrel;have cT:=Zh O8;have x3:wr.cell? ⟨w,3,none⟩=some (.int .i64 (f:Int)):=Zc O8.lf 3 rfl;clear O8;by_cases hmf:m≤f
    ·have hmfI:(m:Int)≤(f:Int):=by omega
     have KOm:=KO.o m;have dJ:=KV.o m
     go_upto_block 4 with fail
     go_cut [10] (fun qF wy=>CU w wy (Qb xp xs (a:Int) (f:Int)) gc go L.length (PO S (m+1)) (RQ O m))
     case first=>
      go_wp2_with fail
      go_loopw [10] (fun qF w'=>∃j:Nat,a≤j∧j<m∧qF = .int .i64 (j:Int)∧CU w w' (Qb xp xs (a:Int) (f:Int)) gc go L.length (PO S m) (RQ O m)∧∀i,j<i→i<m→O i=false∧Zf L i 10 xp xs=false∧Zf L i 8 0 xs=false) (fun qF _=>(intOf qF).toNat)
      case atStart=>exact⟨m-1,Zo,Zo,by rw[Int.ofNat_sub Zo];rfl,cT.o,fun i h1 h2=>by omega⟩
      case round=>
       obtain⟨j,h1,h2,rfl,O8,N_⟩:=hrel;have HCJ:=Zh O8;have Iq:=Zh N_;have x0:wr.cell? ⟨w,0,none⟩=some (.int .i64 xp):=Zc O8.lf 0 rfl;have x1:wr.cell? ⟨w,1,none⟩=some (.int .i64 xs):=Zc O8.lf 1 rfl;have x2:wr.cell? ⟨w,2,none⟩=some (.int .i64 (a:Int)):=Zc O8.lf 2 rfl;have zo:=O8.atO (j:=j) Zo;rw[show RQ O m j=O j by unfold RQ;rw[WV h2];rfl]at zo;clear O8 N_;by_cases tR:a<j
       ·have hajI:(a:Int)<(j:Int):=PM.2 tR;have Cj:(j:Int)<((L.length+1:Nat):Int):=by omega
        have HJM:=Zh h2;have ir:=Zh tR;have KJ:=K1.o m j h2 tR Zo;have cN:=CD.o wr HCJ.o.Za j Zo 10 xp;have CD2:=fun w' hb=>CD.o w' hb j Zo 8 0
        clear tR;cases hd:Zf L j 10 xp xs with
        | true=>
         rw[hd]at cN;have cN:=Zh cN;have HE:=Zh (KJ (WQ hd) Iq.o);clear hd KJ CD2;go_wp2_with (go_at_call 63;(with_reducible refine(cN.o).mono ?_);rintro e w4 ⟨rfl,UL⟩;have sL:=Zh (HCJ.o.below UL);have x0:=ZM x0 UL;have x1:=ZM x1 UL;have zo:=ZM zo UL;clear UL)
         go_meet;exact sL.o.congr (fun j _=>IG S m HE.o j) (fun _ _=>rfl)
        | false=>
         rw[hd]at cN;have cN:=Zh cN;have BB:=Zh hd;clear hd;cases hd:Zf L j 8 0 xs with
         | true=>
          have CD2:=Zh (fun w' hb=>hd▸CD2 w' hb);have HE:=Zh (KJ (WG hd) Iq.o);clear hd KJ;go_wp2_with (go_at_call 63;first|((with_reducible refine cN.o.mono ?_);rintro e w4 ⟨rfl,UL⟩;have sL:=Zh (HCJ.o.below UL);have x1:=ZM x1 UL;clear UL)|((with_reducible refine(CD2.o _ sL.o.Za).mono ?_);rintro e w5 ⟨rfl,UL⟩;have mS:=Zh (sL.o.below UL);clear UL))
          go_meet;exact mS.o.congr (fun j _=>IG S m HE.o j) (fun _ _=>rfl)
         | false=>
          have CD2:=Zh (fun w' hb=>hd▸CD2 w' hb);have gF:=Zh hd;clear hd KJ;go_upto_region 15 with(go_at_call 63;first|((with_reducible refine cN.o.mono ?_);rintro e w4 ⟨rfl,UL⟩;have sL:=Zh (HCJ.o.below UL);have x1:=ZM x1 UL;have zo:=ZM zo UL;clear UL)|((with_reducible refine(CD2.o _ sL.o.Za).mono ?_);rintro e w5 ⟨rfl,UL⟩;have mS:=Zh (sL.o.below UL);have zo:=ZM zo UL;clear UL))
          have HOJ:=Zh (K2.o m j HJM.o);generalize kM:O j=OJ at *;cases OJ with
          | true=>
           have HE:=Zh (HOJ.o rfl Iq.o);have hY:=HY.o.below mS.o.Za;obtain⟨ca',cn',cc',ea',en',ec',pa',pn',nG,ia',im',ic',hr⟩:=hY.ev j (by have:=HJM.o;omega);have y2:=hY.c2;have y3:w5.cell? ⟨g2,o2+j*17+12,none⟩=some (.int .i64 (VQ L j).ds.ZC):=hr 12 _ rfl;have hjL:(j:Int)<(L.length:Int):=by have:=HJM.o;omega
           have nD:(m:Int)<((L.length+1:Nat):Int):=by omega
           have zc:=mS.o.atC (j:=m) Zo;have fz:=ZP mS.o.cur m;clear hr hY kM;go_wp2_with fail
           go_meet;exact mS.o.setC m _ (fun j _=>xD S m _ HE.o j)
          | false=>
           clear HOJ;go_wp2_with fail
           go_roundw
           case rel=>exact⟨j-1,by have:=ir.o;omega,Zo,by rw[Int.ofNat_sub (by have:=ir.o;omega)];rfl,mS.o,fun i q1 q2=>by
            by_cases q:i=j
            ·rw[q];exact⟨kM,BB.o,gF.o⟩
            ·exact Iq.o i Zo q2⟩
           case measure=>have:=ir.o;simp[intOf];omega
       ·have hja:j=a:=by omega
        subst hja;have HE:=Zh (K3.o m ham Iq.o);go_wp2_with fail
        go_meet;exact HCJ.o.congr (fun j _=>IG S m HE.o j) (fun _ _=>rfl)
     case rest=>
      have mU:=Zh hcut;have x3:wc.cell? ⟨w,3,none⟩=some (.int .i64 (f:Int)):=Zc hcut.lf 3 rfl;have x0:wc.cell? ⟨w,0,none⟩=some (.int .i64 xp):=Zc hcut.lf 0 rfl;have x1:wc.cell? ⟨w,1,none⟩=some (.int .i64 xs):=Zc hcut.lf 1 rfl;have x2:wc.cell? ⟨w,2,none⟩=some (.int .i64 (a:Int)):=Zc hcut.lf 2 rfl;clear hcut cT K0 K1 K2 K3 KO KV CD;by_cases kF:m<f
      ·have hm2I:(m:Int)<(f:Int):=by omega
       have zP:=CP.o wc mU.o.Za m ham kF;have sH:=fun w' hb=>CQ.o w' hb m ham hmf
       have CWM:=Zh (fun w' hb=>CW.o w' hb m ham hmf);clear KOm CP CQ CW;cases hP:P m with
       | false=>
        rw[hP]at zP dJ;have zP:=Zh zP;have HE:=Zh dJ;clear hP dJ sH;go_wp2_with ((go_at_call 59;(with_reducible refine zP.o.mono ?_);rintro e w4 ⟨rfl,UL⟩;have sL:=Zh (mU.o.below UL);have x0:=ZM x0 UL;have x1:=ZM x1 UL;have x2:=ZM x2 UL;have x3:=ZM x3 UL;clear UL))
        go_roundw
        case rel=>exact⟨m+1,Zo,Zo,Zn,sL.o.congr (fun _ _=>rfl) (fun j _=>I3 O m HE.o j)⟩
        case measure=>simp[intOf];omega
       | true=>
        rw[hP]at zP dJ;have zP:=Zh zP;clear hP;generalize(S m).quiet=q at *;cases q with
        | true=>
         have sH:=Zh sH;have HE:=Zh dJ;clear dJ;go_wp2_with (first|(go_at_call 59;(with_reducible refine zP.o.mono ?_);rintro e w4 ⟨rfl,UL⟩;have sL:=Zh (mU.o.below UL);have x0:=ZM x0 UL;have x1:=ZM x1 UL;have x2:=ZM x2 UL;have x3:=ZM x3 UL;clear UL)|(go_at_call 34;(with_reducible refine(sH.o _ sL.o.Za).mono ?_);rintro e w5 ⟨rfl,UL⟩;have mS:=Zh (sL.o.below UL);clear UL))
         go_roundw
         case rel=>exact⟨m+1,Zo,Zo,Zn,mS.o.congr (fun _ _=>rfl) (fun j _=>I3 O m HE.o j)⟩
         case measure=>simp[intOf];omega
        | false=>
         have sH:=Zh sH;have hmL:m<L.length:=by omega
         generalize hds:(VQ L m).ds=d at *;obtain⟨dl,dk,dst,gM⟩:=d;dsimp only at dJ;have HKV:Hid (O m=(dk&&dst&&(dl==(S m).want)&&((S m).cur !=(S m).want))):=dJ;clear dJ;go_upto_region 18 with(first|(go_at_call 59;(with_reducible refine zP.o.mono ?_);rintro e w4 ⟨rfl,UL⟩;have sL:=Zh (mU.o.below UL);have x0:=ZM x0 UL;have x1:=ZM x1 UL;have x2:=ZM x2 UL;have x3:=ZM x3 UL;clear UL)|(go_at_call 34;(with_reducible refine(sH.o _ sL.o.Za).mono ?_);rintro e w5 ⟨rfl,UL⟩;have mS:=Zh (sL.o.below UL);clear UL))
         have hY:=HY.o.below mS.o.Za;obtain⟨ca',cn',cc',ea',en',ec',pa',pn',nG,ia',im',ic',hr⟩:=hY.ev m hmL;rw[hds]at hr;have y2:=hY.c2;have hmLI:(m:Int)<(L.length:Int):=by omega
         have hrD:w5.rangeAt g2 (o2+m*17+12) (Qd dl dk dst gM):=Dl hr 12 (fun i v hv=>by
          have hi:=(List.getElem?_eq_some_iff.1 hv).1;simp only[List.length_cons,List.length_nil]at hi
          match i,hi,hv with
          | 0,_,hv=>exact hv
          | 1,_,hv=>exact hv
          | 2,_,hv=>exact hv
          | 3,_,hv=>exact hv)
         have hz:=Z9 w5 (.cells (Qd 0 false false 0) 81);have SA:=setRow_heap _ _ _ (Qd dl dk dst gM) _ _ hz;have HC6:=Zh (mS.o.below (Z0 (Z' w5 (.cells (Qd 0 false false 0) 81)) (Zq _) (Qd dl dk dst gM)));clear hr hY hds;go_upto_region 19 with(first|with_reducible refine Zm hrD underlying81 ?_|with_reducible refine Zs hz ?_)
         clear hz hrD;generalize((w5.alloc (.cells (Qd 0 false false 0) 81)).setRow w5 (Qd dl dk dst gM))=w6 at *;generalize w5.heap.size=kd at *;have M9:=Zh SA;clear SA;go_upto_region 20 with(first|with_reducible refine Zl HC6.o.lf underlying59 ?_|(go_at_call 32;(with_reducible refine(CWM.o _ HC6.o.Za).mono ?_);rintro e w7 ⟨rfl,UL⟩;have HC7:=Zh (HC6.o.below UL);have HD7:=Zh ((UL.block _ (ZY M9.o)).trans M9.o);clear UL))
         have d0:w7.cell? ⟨kd,0,none⟩=some (.int .i64 dl):=Zc HD7.o 0 rfl;have d1:w7.cell? ⟨kd,1,none⟩=some (.bool dk):=Zc HD7.o 1 rfl;have d2:w7.cell? ⟨kd,2,none⟩=some (.bool dst):=Zc HD7.o 2 rfl;have zc:=HC7.o.atC (j:=m) Zo;rw[show PO S (m+1) m=(S m).cur by unfold PO;rw[ZU Zo]]at zc;have zo:=HC7.o.atO (j:=m) Zo;have fz:=ZP HC7.o.opn m;have nD:(m:Int)<((L.length+1:Nat):Int):=by omega
         generalize(S m).want=W at *;generalize(S m).cur=C at *
         have hway:dk=false∨(dk=true∧dst=false)∨(dk=true∧dst=true∧(dl==W)=false)∨(dk=true∧dst=true∧(dl==W)=true∧(C !=W)=false)∨(dk=true∧dst=true∧(dl==W)=true∧(C !=W)=true):=by
          cases dk <;> cases dst <;> cases (dl==W) <;> cases (C !=W) <;> simp
         rcases hway with rfl|⟨rfl,rfl⟩|⟨rfl,rfl,hl⟩|⟨rfl,rfl,hl,hc⟩|⟨rfl,rfl,hl,hc⟩
         all_goals
          go_wp2_with fail
          go_roundw
          case rel=>exact⟨m+1,Zo,Zo,Zn,HC7.o.setO m _ (fun j _=>yG O m _ (HKV.o.trans (by first|rfl|(rw[hl];rfl)|(rw[hl,hc];rfl))) j)⟩
          case measure=>simp[intOf];omega
      ·have HE:=Zh (KOm Zo);have hmf3:¬((m:Int)<(f:Int)):=by omega
       go_wp2_with fail
       go_roundw
       case rel=>exact⟨m+1,Zo,Zo,Zn,mU.o.congr (fun _ _=>rfl) (fun j _=>I3 O m HE.o j)⟩
       case measure=>simp[intOf];omega
    ·have kH:m=f+1:=by omega
     subst kH;have hmfI:¬(((f:Int)+1)≤(f:Int)):=by omega
     go_wp2_with fail
     go_ret2
     exact⟨⟨gc,go,rfl,f+1,Zo,cT.o⟩,cT.o.Za⟩
section
variable {L:List WR} {x:Zt} {k:Nat}
def OS(h:(YU L x k && !(ZL L x k).quiet&&(Wx (ZL L x k) (Z6 L k).WI||Oo L (ZL L x k) (Zx L x k).o k))=false):Zx L x (k+1)=Zx L x k:=by
 show Vx L x _ _ k=_;unfold Vx;rw[h];rfl
def zi(h1:YU L x k=true)(h2:(ZL L x k).quiet=false)(h3:(Wx (ZL L x k) (Z6 L k).WI||Oo L (ZL L x k) (Zx L x k).o k)=true):Zx L x (k+1)=QC L x (ZL L x k) (Zx L x k) k:=by
 show Vx L x _ _ k=_;unfold Vx;rw[h1,h2,h3];rfl
def KI(L:List WR)(x:Zt):∀k:Nat,k≤256→(Zx L x k).WK≤k∧((Zx L x k).o=[]→(Zx L x k).begin=0∧(Zx L x k).opn=0)
 | 0,_=>⟨Int.le_refl _,fun _=>⟨rfl,rfl⟩⟩
 | k+1,hk=>by
  obtain⟨h1,h2⟩:=KI L x k Zo;have h0:=(Si L x k).st;show(Vx L x _ _ k).WK≤_∧_;have e:Zx L x (k+1)=Vx L x (ZL L x k) (Zx L x k) k:=rfl;rw[e];unfold Vx;split
  ·refine⟨?_,fun h=>?_⟩
   ·unfold QC Tj;dsimp only;split
    ·rw[IntKind.wrap_u16];omega
    ·omega
   ·unfold QC at h;exact absurd h Zi
  ·exact⟨Zo,h2⟩
def zh(h:∀j,k≤j→YU L x j=false):∀n,k≤n→Zx L x n=Zx L x k
 | 0,hn=>by rw[Nat.le_zero.1 hn]
 | n+1,hn=>by
  by_cases e:k=n+1
  ·rw[e]
  ·rw[OS (by rw[h n Zo];rfl),zh h n Zo]
def qI(h:∀j,j<k→YU L x j=false):Zx L x k=⟨[],0,0,0⟩:=by
 induction k with
 | zero=>rfl
 | succ k ih=>rw[OS (by rw[h k Zo];rfl),ih (fun j hj=>h j Zo)]
def Tp(L:List WR)(x:Zt)(k:Nat):Int:=if(VQ L k).ds.start=true then(Zx L x k).WK+1 else(Zx L x k).WK
def Fa(h:YU L x k=true):(VQ L k).ds=(Z6 L k).WI∧(VQ L k).pk=(Z6 L k).XM:=by
 unfold YU at h;simp only[UN,Su]at h;exact Fb h.1.2
def qJ(hk:k<256)(h1:YU L x k=true)(h2:(ZL L x k).quiet=false)(h3:Vk L x k=true)(tm:Int)(ht:tm=if 0<(Zx L x k).o.length then IntKind.u32.wrap ((U4 (Zx L x k).o).time+3000)else 0) :
  Zx L x (k+1)=⟨(Zx L x k).o++[⟨k,IntKind.u16.wrap (Zx L x k).o.length,tm,Xl x.peer x.source,IntKind.u16.wrap (Tp L x k-1),true⟩],k,tm,Tp L x k⟩:=by
 have ho:Wx (ZL L x k) (Z6 L k).WI=true:=by unfold Vk at h3;rw[h1]at h3;exact h3
 have hs:=(Si L x k).st;obtain⟨hf,he⟩:=KI L x k Zo
 have hb:(if 0<(Zx L x k).o.length then IntKind.u32.wrap ((U4 (Zx L x k).o).time+3000)else(Zx L x k).begin)=tm:=by
  rw[ht];by_cases hl:0<(Zx L x k).o.length
  ·rw[ZU hl,ZU hl]
  ·rw[Z3 hl,Z3 hl,(he (BK Zo)).1]
 have fU:IntKind.u32.wrap (IntKind.u32.wrap ((Z6 L k).XM.time-(Z6 L k).XM.time)+tm)=tm:=by
  rw[Int.sub_self];show IntKind.u32.wrap (0+tm)=tm;rw[Int.zero_add,ht];split
  ·rw[Nr,Nr];omega
  ·rfl
 rw[zi h1 h2 (by rw[ho];rfl)];unfold QC;rw[ho,←(Fa h1).1];unfold Tj oY Tp;dsimp only;rw[ZU rfl,ZU rfl,hb,Wi,fU];by_cases H_:(VQ L k).ds.start=true
 ·rw[H_,ZU rfl,ZU rfl,show IntKind.u16.wrap ((Zx L x k).WK+1)=(Zx L x k).WK+1 from by rw[IntKind.wrap_u16];omega]
 ·rw[Z3 H_,Z3 H_]
def qH(hk:k<256)(h1:YU L x k=true)(h2:(ZL L x k).quiet=false)(h3:Vk L x k=false)(h4:Oo L (ZL L x k) (Zx L x k).o k=true) :
  Zx L x (k+1)=⟨(Zx L x k).o++[⟨k,IntKind.u16.wrap (Zx L x k).o.length,IntKind.u32.wrap (IntKind.u32.wrap ((VQ L k).pk.time-(Z6 L (Zx L x k).opn.toNat).XM.time)+(Zx L x k).begin),Xl x.peer x.source,IntKind.u16.wrap (Tp L x k-1),false⟩],(Zx L x k).opn,(Zx L x k).begin,Tp L x k⟩:=by
 have ho:Wx (ZL L x k) (Z6 L k).WI=false:=by unfold Vk at h3;rw[h1]at h3;exact h3
 have hs:=(Si L x k).st;obtain⟨hf,he⟩:=KI L x k Zo;rw[zi h1 h2 (by rw[ho,h4];rfl)];unfold QC;rw[ho,←(Fa h1).1,(Fa h1).2];unfold Tj oY Tp;dsimp only;by_cases H_:(VQ L k).ds.start=true
 ·rw[H_,ZU rfl,ZU rfl,show IntKind.u16.wrap ((Zx L x k).WK+1)=(Zx L x k).WK+1 from by rw[IntKind.wrap_u16];omega];rfl
 ·rw[Z3 H_,Z3 H_];rfl
def Ds(L:List WR)(x:Zt):∀k:Nat,(∀e∈(Zx L x k).o,YU L x e.event.toNat=true)∧((Zx L x k).o≠[]→YU L x (Zx L x k).opn.toNat=true)
 | 0=>⟨fun e he=>(by cases he),fun h=>absurd rfl h⟩
 | k+1=>by
  obtain⟨h1,h2⟩:=Ds L x k;have e:Zx L x (k+1)=Vx L x (ZL L x k) (Zx L x k) k:=rfl;rw[e];unfold Vx;split
  ·rename_i hc
   rw[UN,UN,Bool.or_eq_true]at hc;refine⟨fun y hy=>?_,fun _=>?_⟩
   ·unfold QC at hy;rcases EZ.1 hy with h|h
    ·exact h1 y h
    ·rw[K4]at h;rw[h];exact hc.1.1
   ·unfold QC Tj;dsimp only;cases ho:Wx (ZL L x k) (Z6 L k).WI with
    | true=>exact hc.1.1
    | false=>
     refine h2 (fun q=>?_);have hg:=hc.2.resolve_left (by rw[ho];exact Bool.noConfusion);unfold Oo at hg;rw[q]at hg;simp at hg
  ·exact⟨h1,h2⟩
def Cw{l:List ED}(h:l≠[]):U4 l∈l∧l[l.length-1]?=some (U4 l):=by
 have hl:l.length-1<l.length:=by have:=List.length_pos_iff.2 h;omega
 unfold U4;rw[QQ,U' hl];exact⟨O6 hl,rfl⟩
def jX(L:List WR)(k:Nat):0≤(VQ L k).pk.seq∧(VQ L k).pk.seq<65536:=by
 have h0:(0:Int)≤WT.seq∧WT.seq<65536:=⟨by decide,by decide⟩
 have h1:∀b:List UInt8,0≤(XX b).1.pk.seq∧(XX b).1.pk.seq<65536:=fun b=>by
  unfold XX;split;· exact h0
  split;· exact h0
  split;· split <;> exact h0
  split;· exact h0
  split;· exact h0
  show 0≤(YH b).1.seq∧(YH b).1.seq<65536;unfold YH;split
  ·exact h0
  ·exact⟨oK _,PM.2 (U7 _ 2 2 2 Zd)⟩
 unfold VQ;cases L[k]? with
 | none=>exact h0
 | some y=>
  show 0≤(DY y.x.o y.b).pk.seq∧(DY y.x.o y.b).pk.seq<65536;unfold DY;split
  ·exact h1 _
  ·exact h0
end
structure SR(L:List WR)(x:Zt)(k:Nat):Prop where
 len:(Zx L x k).o.length≤k
 st:0≤(Zx L x k).WK∧(Zx L x k).WK≤k
 sv:Tp L x k=if(VQ L k).ds.start=true then(Zx L x k).WK+1 else(Zx L x k).WK
 opn:∃n:Nat,(Zx L x k).opn=n∧(n<k∨n=0)
 s1:YU L x k=false→Zx L x (k+1)=Zx L x k
 s2:(ZL L x k).quiet=true→Zx L x (k+1)=Zx L x k
 s3:YU L x k=true→Vk L x k=false→((VQ L k).ds.ZC≠(ZL L x k).cur∨(Zx L x k).o.length=0∨¬0<Us (VQ L k).pk.seq (VQ L (U4 (Zx L x k).o).event.toNat).pk.seq)→Zx L x (k+1)=Zx L x k
 last:0<(Zx L x k).o.length→∃n:Nat,(U4 (Zx L x k).o).event=n∧n<k∧(Zx L x k).o[(Zx L x k).o.length-1]?=some (U4 (Zx L x k).o)
 go:YU L x k=true→(ZL L x k).quiet=false→Vk L x k=false→0<(Zx L x k).o.length→(VQ L k).ds.ZC=(ZL L x k).cur→0<Us (VQ L k).pk.seq (VQ L (U4 (Zx L x k).o).event.toNat).pk.seq →
  Zx L x (k+1)=⟨(Zx L x k).o++[⟨k,IntKind.u16.wrap (Zx L x k).o.length,IntKind.u32.wrap (IntKind.u32.wrap ((VQ L k).pk.time-(VQ L (Zx L x k).opn.toNat).pk.time)+(Zx L x k).begin),Xl x.peer x.source,IntKind.u16.wrap (Tp L x k-1),false⟩],(Zx L x k).opn,(Zx L x k).begin,Tp L x k⟩
 op:YU L x k=true→(ZL L x k).quiet=false→Vk L x k=true→∀tm:Int,(tm=if 0<(Zx L x k).o.length then IntKind.u32.wrap ((U4 (Zx L x k).o).time+3000)else 0) →
  Zx L x (k+1)=⟨(Zx L x k).o++[⟨k,IntKind.u16.wrap (Zx L x k).o.length,tm,Xl x.peer x.source,IntKind.u16.wrap (Tp L x k-1),true⟩],k,tm,Tp L x k⟩
def uZ(L:List WR)(x:Zt)(k:Nat)(hk:k<256):SR L x k:=by
 have V9:=Si L x k;have hkd:=Ds L x k;have hnil:0<(Zx L x k).o.length→(Zx L x k).o≠[]:=fun h e=>by rw[e]at h;exact absurd h Zd
 have Cm:YU L x k=true→Vk L x k=Wx (ZL L x k) (Z6 L k).WI:=fun h1=>by unfold Vk;rw[h1];rfl
 have Ey:YU L x k=true→0<(Zx L x k).o.length→Oo L (ZL L x k) (Zx L x k).o k=(decide ((VQ L k).ds.ZC=(ZL L x k).cur)&&decide (0<Us (VQ L k).pk.seq (VQ L (U4 (Zx L x k).o).event.toNat).pk.seq)):=fun h1 hl=>by
  unfold Oo;rw[(Fa h1).1,(Fa h1).2,(Fa (hkd.1 _ (Cw (hnil hl)).1)).2,WH (by omega:¬(Zx L x k).o.length=0)];simp
 refine⟨V9.len,⟨V9.st.1,(KI L x k Zo).1⟩,rfl,?_,fun h=>OS (by rw[h];rfl),fun h=>OS (by rw[h,Bool.not_true,Bool.and_false];rfl),fun h1 h2 h3=>?_,fun hl=>?_,fun h1 h2 h3 hl h4 h5=>?_,fun h1 h2 h3 tm ht=>qJ hk h1 h2 h3 tm ht⟩
 ·obtain⟨n,hn⟩:=RV V9.opn.1;exact⟨n,hn,by have:=V9.opn.2;omega⟩
 ·refine OS ?_;rw[←Cm h1,h2,Bool.false_or];by_cases hl:0<(Zx L x k).o.length
  ·rw[Ey h1 hl];rcases h3 with h3|h3|h3
   ·rw[WH h3,Bool.false_and,Bool.and_false]
   ·omega
   ·rw[WH h3,Bool.and_false,Bool.and_false]
  ·unfold Oo;rw[WV (by omega:(Zx L x k).o.length=0)];simp
 ·have hm:=Cw (hnil hl);have he:=V9.ev _ hm.1;obtain⟨n,hn⟩:=RV he.1;exact⟨n,hn,Zo,hm.2⟩
 ·rw[qH hk h1 h2 h3 (by rw[Ey h1 hl,WV h4,WV h5];rfl),(Fa (hkd.2 (hnil hl))).2]
def diffR(a b:Int)(ha:0≤a∧a<65536)(hb:0≤b∧b<65536)(w:World):Calls prog 60 (Qz a b) w fun e w'=>e = .returned (.int .i64 (Us a b))∧w=w':=by
 have e1:(a-b+65536).tmod 65536=(a-b+65536)%65536:=Int.tmod_eq_emod_of_nonneg Zo;obtain⟨d,hd⟩:∃d,(a-b+65536)%65536=d:=⟨_,rfl⟩;rw[hd]at e1;have hd0:0≤d∧d<65536:=by omega
 have HD:Hid (Us a b=if 32768≤d then d-65536 else d):=by
  show _=_;unfold Us;rw[IntKind.wrap_u16];simp only[IntKind.wrap,IntKind.bits,IntKind.signed];simp;split <;> split <;> omega
 clear hd;go_enter func60,ntmps60;by_cases hg:32768≤d
 ·go_wp2;go_ret;exact⟨by rw[HD.o,ZU hg];rfl,rfl⟩
 ·go_wp2;go_ret;exact⟨by rw[HD.o,Z3 Zo];rfl,rfl⟩
structure SB(w w':World)(lc:Array Value)(gc go n:Nat)(f:Nat→Int)(g:Nat→Bool)(q:Nat)(fe ft:Int)(ov:Value)(out:List ED):Prop where
 cu:CU w w' lc gc go n f g
 fb:∃f1 f3 f4 f5,w'.heap[q]?=some (.cells (Qp fe f1 ft f3 f4 f5) 70)
 own:w'.ownsRow (q+1) 70 6 ov out.length (out.flatMap Xu)
 hq:w.heap.size<q
 hc:gc<q
 ho:go<q
 sz:q+1≤w'.heap.size
section
variable {w w1 w':World} {lc:Array Value} {gc go n q:Nat} {f:Nat→Int} {g:Nat→Bool} {fe ft:Int} {ov:Value} {out:List ED}
def CU.jO(h:CU w w1 lc gc go n f g){B:Nat}(hb:Below B w1 w')(h1:gc<B)(h2:go<B)(h3:w.heap.size<B):CU w w' lc gc go n f g:=⟨(hb.block _ h1).trans h.cur,(hb.block _ h2).trans h.opn,h.ne,(hb.block _ h3).trans h.lf,h.Za.trans (hb.mono (jD h3)),h.hc,h.ho⟩
def SB.below(h:SB w w1 lc gc go n f g q fe ft ov out)(hb:Below w1 w1 w'):SB w w' lc gc go n f g q fe ft ov out:=by
 obtain⟨f1,f3,f4,f5,hf⟩:=h.fb;exact⟨h.cu.below hb,⟨f1,f3,f4,f5,(hb.block _ (ZY hf)).trans hf⟩,Yq h.own hb,h.hq,h.hc,h.ho,PJ h.sz hb.size⟩
def SB.grown(h:SB w w1 lc gc go n f g q fe ft ov out)(hg:w1.grownBy w' ov.ownBlock){ov':Value}{out':List ED}(ho:w'.ownsRow (q+1) 70 6 ov' out'.length (out'.flatMap Xu)):SB w w' lc gc go n f g q fe ft ov' out':=by
 have hb:=(YE (q+1) w1).grown hg h.sz (YG h.own);obtain⟨f1,f3,f4,f5,hf⟩:=h.fb;exact⟨h.cu.jO hb (by have:=h.hc;omega) (by have:=h.ho;omega) (by have:=h.hq;omega),⟨f1,f3,f4,f5,(hb.block _ (Nat.lt_succ_self _)).trans hf⟩,ho,h.hq,h.hc,h.ho,PJ h.sz hb.size⟩
def SB.setF(h:SB w w1 lc gc go n f g q fe ft ov out)(e1 e2 e3 e4 e5:Int)(e6:Bool):SB w (w1.setRow q (Qp e1 e2 e3 e4 e5 e6)) lc gc go n f g q e1 e3 ov out:=by
 obtain⟨f1,f3,f4,f5,hf⟩:=h.fb;have hb:=Z0 (YE q w1) (Zq _) (Qp e1 e2 e3 e4 e5 e6);refine⟨h.cu.jO hb h.hc h.ho h.hq,⟨e2,e4,e5,e6,setRow_heap _ _ _ _ _ _ hf⟩,XO h.own fun j hj=>setRow_other _ _ _ _ (by have:=YG h.own j hj;omega),h.hq,h.hc,h.ho,?_⟩;have:=h.sz;simpa[World.setRow]using this
end
def quietIn{w:World}{k:Nat}{L:List WR}(h:vR w k L){x:Zt}(hx:x∈Zg L L.length L.length){j:Nat}(h1:x.Mx<j)(h2:(j:Int)≤x.fin):Calls prog 34 (Qu (some ⟨k,0,none⟩) (Z5 x).toArray (j:Int)) w fun e w2=>e = .returned (.bool (ZL L x j).quiet)∧Below w w w2:=by
 have hq:=mg h x (j:Int);obtain⟨-,b,-,e,-,-,-,-,-,-,-,h9⟩:=Kj (x:=x) (at':=j) (by unfold there;rw[WV hx,WV h1,WV h2];rfl);rw[h9,←Int.ofNat.inj e]at hq;exact hq
def sentR{w:World}{k:Nat}{L:List WR}(h:vR w k L)(x:Zt):Calls prog 30 (Qi (some ⟨k,0,none⟩) (Z5 x).toArray) w fun e w'=>(∃v,e = .returned v∧Row w' 70 v (UJ L x).length ((UJ L x).flatMap Xu))∧Below w w w':=by
 by_cases hx:x∈Zg L L.length L.length
 ·have hLL:=h.1;have h3:=Uh L L.length L.length (Zq _) x hx;have h4:=NQ L L.length (Zq _) x hx;obtain⟨a,ha⟩:=RV h3.1;obtain⟨f,hf⟩:=RV (show 0≤x.fin by omega);have kE:∀j:Nat,Wk x j=true↔a<j∧j<f:=fun j=>by unfold Wk;rw[UN,Su,Su];omega
  have hnp:∀j,¬(a<j∧j<f)→YU L x j=false:=fun j h1=>by
   unfold YU;cases e:Wk x (j:Int)with
   | false=>rfl
   | true=>exact absurd ((kE j).1 e) h1
  have CI:=Zh (fun(w':World) (hb:Below w w w')=>(show(decide (x∈Zg L L.length L.length)&&there x (x.Mx+1))=true by unfold there;rw[WV hx,WV Zo,WV Zo];rfl)▸(h.below hb).is x (x.Mx+1));have CC:=Zh (fun(w':World) (hb:Below w w w')=>cursR (h.below hb) x hx);have CP:=Zh (fun(w':World) (hb:Below w w w') (j:Nat) (h1:a<j) (h2:j<f)=>cI (h.below hb) x ((kE j).2 ⟨h1,h2⟩) Zo);have CQ:=Zh (fun(w':World) (hb:Below w w w') (j:Nat) (h1:a<j) (h2:j<f)=>quietIn (h.below hb) hx (j:=j) Zo Zo);have CO:=Zh (fun(w':World)=>yO x.peer x.source w');have ZN:Hid (Zx L x (a+1)=⟨[],0,0,0⟩):=qI fun j hj=>hnp j Zo
  have ZE:Hid (UJ L x=(Zx L x f).o):=by
   show _=_;unfold UJ;rw[ZU hx,zh (k:=f) (fun j hj=>hnp j Zo) L.length Zo]
  have ZR:Hid (∀j,j<256→SR L x j):=fun j hj=>uZ L x j hj
  obtain⟨g,o,c,g1,o1,c1,g2,o2,c2,lC⟩:=h.cells Zo;have HY:=Zh lC;have hfL:f≤L.length:=by omega
  have haf:a<f:=by omega
  clear h hx h3 h4 kE lC hnp;obtain⟨oo,hoo⟩:∃oo,oo=Xl x.peer x.source:=⟨_,rfl⟩;rw[←hoo]at CO;rw[ZE.o];have HOO:=Zh hoo;clear ZE hoo;have ZRR:Hid (∀j,j<256→Hid (SR L x j)):=fun j hj=>ZR.o j hj
  clear ZR;generalize hZ:Zx L x=Z at *;generalize hS:ZL L x=S at *;generalize hO:Vk L x=O at *;generalize hP:YU L x=P at *;have HZ:=Zh hZ;have HS:=Zh hS;have HO:=Zh hO;have HP:=Zh hP;clear hZ hS hO hP;obtain⟨xp,xs,xb,xf⟩:=x;dsimp only[Z5]at *;subst ha;subst hf;have hz:=Z9 w (.cells (Qb xp xs (a:Int) (f:Int)) 59);have HB:Hid (Below w w (w.alloc (.cells (Qb xp xs (a:Int) (f:Int)) 59))):=Z' w _;have aI:=Zh hz;have x2:(w.alloc (.cells (Qb xp xs (a:Int) (f:Int)) 59)).cell? ⟨w,2,none⟩=some (.int .i64 (a:Int)):=Zc hz 2 rfl;clear hz;go_enter func30,ntmps30
  go_upto_region 4 with(first|with_reducible refine Zl aI.o underlying59 ?_|with_reducible refine Zl vQ.o underlying59 ?_|(go_at_call 57;refine(CI.o _ HB.o).mono ?_;rintro e w2 ⟨rfl,Y7⟩;have Yc:Hid (Below w w w2):=Tr HB Y7;have vQ:=Zh ((Y7.block _ (ZY aI.o)).trans aI.o);clear Y7)|(go_at_call 58;(with_reducible refine(CC.o _ Yc.o).mono ?_);rintro e w3 ⟨⟨gc,go,rfl,mm,hm,O8⟩,WM⟩;have nO:Hid (CU w w3 (Qb xp xs (a:Int) (f:Int)) gc go L.length (PO S mm) (RQ O mm)):=⟨O8.cur,O8.opn,O8.ne,(WM.block _ (ZY vQ.o)).trans vQ.o,Tr Yc WM,by have:=O8.hc;have:=Yc.o.size;omega,by have:=O8.ho;have:=Yc.o.size;omega⟩;have HMM:=Zh hm;clear O8 WM hm))
  clear CI CC HB aI vQ Yc x2;go_upto_region 7 with fail
  have HSB:Hid (SB w (w3.alloc (.cells (Qp 0 0 0 0 0 false) 70)) (Qb xp xs (a:Int) (f:Int)) gc go L.length (PO S mm) (RQ O mm) w3 0 0 (.slice none 0 0) []):=by
   have h1:=Z' w3 (.cells (Qp 0 0 0 0 0 false) 70);refine⟨nO.o.below h1,⟨0,0,0,false,Z9 w3 _⟩,TH _ _ _ _,ZY nO.o.lf,ZY nO.o.cur,ZY nO.o.opn,?_⟩;rw[size_alloc];exact Zq _
  clear nO;generalize(w3.alloc (.cells (Qp 0 0 0 0 0 false) 70))=w4 at *;generalize w3.heap.size=q at *;have x2:w4.cell? ⟨w,2,none⟩=some (.int .i64 (a:Int)):=Zc HSB.o.cu.lf 2 rfl;go_wp2_with fail
  clear x2;go_loopw [7,8,10,114,139] (fun s7 s8 qF s114 s139 w'=>∃(m:Nat) (ov:Option Addr) (oc:Nat),a<m∧m≤f∧qF = .int .i64 (m:Int)∧s7 = .slice ov (Z m).o.length oc∧s8 = .int .i64 (Z m).WK∧SB w w' (Qb xp xs (a:Int) (f:Int)) gc go L.length (PO S mm) (RQ O mm) q (Z m).opn (Z m).begin (.slice ov (Z m).o.length oc) (Z m).o) (fun _ _ qF _ _ _=>f-(intOf qF).toNat)
  case atStart=>exact⟨a+1,none,0,Zo,Zo,Zn,by rw[ZN.o];rfl,by rw[ZN.o],by rw[ZN.o];exact HSB.o⟩
  case round=>
   obtain⟨m,ov,oc,ham,hmf,rfl,rfl,rfl,hsb⟩:=hrel;have iU:=Zh hsb;have x0:wr.cell? ⟨w,0,none⟩=some (.int .i64 xp):=Zc hsb.cu.lf 0 rfl;have x1:wr.cell? ⟨w,1,none⟩=some (.int .i64 xs):=Zc hsb.cu.lf 1 rfl;have x2:wr.cell? ⟨w,2,none⟩=some (.int .i64 (a:Int)):=Zc hsb.cu.lf 2 rfl;have x3:wr.cell? ⟨w,3,none⟩=some (.int .i64 (f:Int)):=Zc hsb.cu.lf 3 rfl;clear hsb HSB ZN;by_cases kF:m<f
   ·have hm2I:(m:Int)<(f:Int):=by omega
    have HSR:=ZRR.o m Zo;have zP:=CP.o wr iU.o.cu.Za m ham kF;have sH:=fun w' hb=>CQ.o w' hb m ham kF
    clear CP CQ ZRR;obtain⟨hlen,H_,Ki,⟨lX,hon,honk⟩,s1,s2,s3,xZ,Ey,ud⟩:=HSR.o;have cF:=jX L m;simp only[HZ.o,HS.o,HO.o,HP.o,←HOO.o]at hlen H_ Ki hon s1 s2 s3 xZ Ey ud;generalize Z m=z at *;obtain⟨out,on,bg,st⟩:=z;dsimp only at *;subst hon;clear HSR HZ HS HO HP HOO;cases bM:P m with
    | false=>as_aux_lemma=>
     rw[bM]at zP;have zP:=Zh zP;have HE:=Zh (s1 bM);clear bM s1 s2 s3 xZ Ey ud sH cF;go_wp2_with (first|with_reducible refine Zl iU.o.cu.lf underlying59 ?_|(go_at_call 59;(with_reducible refine zP.o.mono ?_);rintro e w5 ⟨rfl,UL⟩;have ni:=Zh (iU.o.below UL);have x0:=ZM x0 UL;have x1:=ZM x1 UL;have x2:=ZM x2 UL;have x3:=ZM x3 UL;clear UL))
     go_roundw
     case rel=>exact⟨m+1,ov,oc,Zo,Zo,Zn,by rw[HE.o],by rw[HE.o],by rw[HE.o];exact ni.o⟩
     case measure=>simp[intOf];omega
    | true=>
     rw[bM]at zP;have zP:=Zh zP;replace s3:=s3 bM;replace Ey:=Ey bM;replace ud:=ud bM;clear bM s1;generalize(S m).quiet=qq at *;cases qq with
     | true=>as_aux_lemma=>
      have sH:=Zh sH;have HE:=Zh (s2 rfl);clear s2 s3 xZ Ey ud cF;go_wp2_with (first|with_reducible refine Zl iU.o.cu.lf underlying59 ?_|(go_at_call 59;(with_reducible refine zP.o.mono ?_);rintro e w5 ⟨rfl,UL⟩;have ni:=Zh (iU.o.below UL);have x0:=ZM x0 UL;have x1:=ZM x1 UL;have x2:=ZM x2 UL;have x3:=ZM x3 UL;clear UL)|(go_at_call 34;(with_reducible refine(sH.o _ ni.o.cu.Za).mono ?_);rintro e w6 ⟨rfl,UL⟩;have HS6:=Zh (ni.o.below UL);clear UL))
      go_roundw
      case rel=>exact⟨m+1,ov,oc,Zo,Zo,Zn,by rw[HE.o],by rw[HE.o],by rw[HE.o];exact HS6.o⟩
      case measure=>simp[intOf];omega
     | false=>
      have sH:=Zh sH;have vK:=Zh (Ey rfl);have DI:=Zh (ud rfl);have JN:=Zh s3;have EK:=Zh xZ;clear s2 s3 Ey ud xZ;go_upto_region 11 with(first|with_reducible refine Zl iU.o.cu.lf underlying59 ?_|(go_at_call 59;(with_reducible refine zP.o.mono ?_);rintro e w5 ⟨rfl,UL⟩;have ni:=Zh (iU.o.below UL);have x0:=ZM x0 UL;have x1:=ZM x1 UL;have x2:=ZM x2 UL;have x3:=ZM x3 UL;clear UL)|(go_at_call 34;(with_reducible refine(sH.o _ ni.o.cu.Za).mono ?_);rintro e w6 ⟨rfl,UL⟩;have HS6:=Zh (ni.o.below UL);clear UL))
      have hmL:m<L.length:=by omega
      have hmLI:(m:Int)<(L.length:Int):=by omega
      have hY:=HY.o.below HS6.o.cu.Za;obtain⟨ca',cn',cc',ea',en',ec',pa',pn',nG,ia',im',ic',hr⟩:=hY.ev m hmL;have y2:=hY.c2;generalize Tp L ⟨xp,xs,a,f⟩ m=ST at *;generalize(VQ L m).kd=ek at *;generalize(VQ L m).pk=pk at *;generalize(VQ L m).ds=ds at *;obtain⟨mk,ty,sq,tm,sr,cl,he,pf,el,pl,pd⟩:=pk;obtain⟨dl,dk,dst,gM⟩:=ds;dsimp only[SQ,VT,List.cons_append,IC]at hr Ki cF JN vK DI;have hz:=Z9 w6 (.cells (Qj 0 false 0 0 0 0 none 0 0 false 0 none 0 0 none 0 0 0 0 false false 0 none 0 0) 84);have SA:=setRow_heap _ _ _ (Qj ek mk ty sq tm sr ca' cn' cc' he pf ea' en' ec' pa' pn' nG pd dl dk dst gM ia' im' ic') _ _ hz;have nj:=Zh (HS6.o.below (Z0 (Z' w6 (.cells (Qj 0 false 0 0 0 0 none 0 0 false 0 none 0 0 none 0 0 0 0 false false 0 none 0 0) 84)) (Zq _) (Qj ek mk ty sq tm sr ca' cn' cc' he pf ea' en' ec' pa' pn' nG pd dl dk dst gM ia' im' ic')));have ru:=Zh Ki;clear hY Ki ni;go_upto_region 12 with(first|with_reducible refine Zm hr underlying84 ?_|with_reducible refine Zs hz ?_)
      clear hz hr y2 HS6;generalize((w6.alloc (.cells (Qj 0 false 0 0 0 0 none 0 0 false 0 none 0 0 none 0 0 0 0 false false 0 none 0 0) 84)).setRow w6 (Qj ek mk ty sq tm sr ca' cn' cc' he pf ea' en' ec' pa' pn' nG pd dl dk dst gM ia' im' ic'))=w7 at *;generalize w6.heap.size=ke at *;have HE7:=Zh SA;clear SA;have nD:(m:Int)<((L.length+1:Nat):Int):=by omega
      have zo:=nj.o.cu.atO (j:=m) Zo;rw[show RQ O mm m=O m by unfold RQ;rw[WV (by have:=HMM.o;omega)];rfl]at zo;obtain⟨OJ,hOJ⟩:∃b,O m=b:=⟨_,rfl⟩;rw[hOJ]at zo vK DI JN;have HOJ:=Zh hOJ;clear hOJ;go_upto_if 59 with fail
      go_cut [] (fun wx=>SB w wx (Qb xp xs (a:Int) (f:Int)) gc go L.length (PO S mm) (RQ O mm) q (lX:Int) bg (.slice ov out.length oc) out∧wx.heap[ke]?=some (.cells (Qj ek mk ty sq tm sr ca' cn' cc' he pf ea' en' ec' pa' pn' nG pd dl dk dst gM ia' im' ic') 84)∧Hid (OJ=true∨(0<out.length∧dl=(S m).cur∧0<Us sq (VQ L (U4 out).event.toNat).pk.seq)))
      case first=>as_aux_lemma=>
       cases OJ with
       | true=>
        go_wp2_with fail
        go_meet;exact⟨nj.o,HE7.o,by first|exact WQ rfl|exact WQ trivial⟩
       | false=>
        have s3:=JN.o rfl;have zc:=nj.o.cu.atC (j:=m) Zo;rw[show PO S mm m=(S m).cur by unfold PO;rw[ZU (by have:=HMM.o;omega)]]at zc;have e3:w7.cell? ⟨ke,3,none⟩=some (.int .u16 sq):=Zc HE7.o 3 rfl;have e12:w7.cell? ⟨ke,12,none⟩=some (.int .i64 dl):=Zc HE7.o 12 rfl;have HK8:Hid (∀n,SB w (w7.drewN n) (Qb xp xs (a:Int) (f:Int)) gc go L.length (PO S mm) (RQ O mm) q (lX:Int) bg (.slice ov out.length oc) out∧(w7.drewN n).heap[ke]?=some (.cells (Qj ek mk ty sq tm sr ca' cn' cc' he pf ea' en' ec' pa' pn' nG pd dl dk dst gM ia' im' ic') 84)):=fun n=>⟨nj.o.below (below_drewN (YE _ _) n),((below_drewN (YE _ _) n).block _ (ZY HE7.o)).trans HE7.o⟩
        generalize(S m).cur=C at *;clear vK DI JN;by_cases hl:dl=C
        ·have hl1:(dl !=C)=false:=by rw[hl];simp
         by_cases hn:out.length=0
         ·have H8:((out.length:Int)==0)=true:=by rw[hn];rfl
          have HE:=Zh (s3 (WG (WQ hn)));clear s3 EK hl hn;exact Yt11
         ·obtain⟨lq,hle,AV,gV⟩:=EK.o Zo;obtain⟨n,hnn⟩:∃n,out.length=n+1:=⟨out.length-1,Zo⟩;have H8:((out.length:Int)==0)=false:=by rw[hnn];simp;omega
          have fM:(out.length:Int)-1=(n:Int):=by omega
          have hn3:(n:Int)<(out.length:Int):=by omega
          obtain⟨g5,o5,e5,V5⟩:=UI Xu 6 (fun _=>rfl) (Row.Z4 nj.o.own) Zo;subst e5
          have z1:w7.cell? ⟨g5,o5+n*6,none⟩=some (.int .i64 (lq:Int)):=by
           have:=V5 (out.length-1) _ gV 0 Zo;rw[show out.length-1=n by omega]at this;rw[←hle];exact this
          have hY:=HY.o.below nj.o.cu.Za;obtain⟨ca2,cn2,cc2,gN,en2,gP,pa2,pn2,pc2,ia2,im2,ic2,OA⟩:=hY.ev lq Zo;have y2:=hY.c2;have y5:w7.cell? ⟨g2,o2+lq*17+3,none⟩=some (.int .u16 (VQ L lq).pk.seq):=OA 3 _ rfl;have hlI:(lq:Int)<(L.length:Int):=by omega
          have hsq2:=jX L lq;have HDQ:Hid ((VQ L (U4 out).event.toNat).pk.seq=(VQ L lq).pk.seq):=by show _=_;rw[hle,Wi]
          rw[HDQ.o]at s3;have CDF:=diffR sq (VQ L lq).pk.seq cF hsq2;generalize(VQ L lq).pk.seq=sq2 at *;obtain⟨D,hD⟩:∃D,Us sq sq2=D:=⟨_,rfl⟩;rw[hD]at s3 CDF;have CDF:=Zh CDF;have HD:=Zh hD;clear hD;by_cases hd:0<D
          ·have hd1:¬D≤0:=by omega
           have HG:Hid (0<out.length∧dl=C∧0<Us sq (VQ L (U4 out).event.toNat).pk.seq):=⟨Zo,hl,by rw[HDQ.o,HD.o];exact hd⟩;clear s3 EK hl hn V5 OA hY hsq2 hd hnn gV;go_upto_region 13 with fail
           go_quiet ((go_at_call 60;exact Calls.quiet_of_same ((CDF.o _).mono fun e w' ⟨a,b⟩=>⟨a,b.symm⟩)))
           have np:=Zh (HK8.o nq);go_wp2_with fail
           go_meet;exact⟨np.o.1,np.o.2,WG HG.o⟩
          ·have hd1:D≤0:=by omega
           have HE:=Zh (s3 (WG (WG Zo)));clear s3 EK hl hn V5 OA hY hsq2 hd hnn gV;go_upto_region 13 with fail
           go_quiet ((go_at_call 60;exact Calls.quiet_of_same ((CDF.o _).mono fun e w' ⟨a,b⟩=>⟨a,b.symm⟩)))
           have np:=Zh (HK8.o nq).1;go_wp2_with fail
           go_roundw
           case rel=>exact⟨m+1,some ⟨g5,o5,none⟩,oc,Zo,Zo,Zn,by rw[HE.o],by rw[HE.o],by rw[HE.o];exact np.o⟩
           case measure=>simp[intOf];omega
        ·have hl1:(dl !=C)=true:=by rw[Rs];exact hl
         have HE:=Zh (s3 (WQ hl));clear s3 EK hl;exact Yt11
      case rest=>
       obtain⟨w8,rfl⟩:∃W:World,W=wc:=⟨_,rfl⟩;obtain⟨hs8,he8,hgo8⟩:=hcut;have np:=Zh hs8;have HE8:=Zh he8;have HG8:=Zh hgo8;clear hs8 he8 hgo8 JN zo nj HE7;have e14:w8.cell? ⟨ke,14,none⟩=some (.bool dst):=Zc HE8.o 14 rfl;go_upto_if 97 with fail
       go_cut [8] (fun s8 wx=>s8 = .int .i64 ST∧wx=w8)
       case first=>as_aux_lemma=>
        cases dst with
        | true=>
         have hs:ST=st+1:=ru.o;go_wp2_with fail
         go_meet;exact⟨by rw[hs],rfl⟩
        | false=>
         have hs:ST=st:=ru.o;go_wp2_with fail
         go_meet;exact⟨by rw[hs],rfl⟩
       case rest=>
        obtain⟨rfl,e8⟩:=hcut;have e8:=e8.symm;subst e8;have hST:0≤ST∧ST≤300:=by have h:=ru.o;split at h <;> omega
        have MG:(out.length:Int).tmod 65536=out.length:=by rw[Int.tmod_eq_emod_of_nonneg Zo];omega
        have hwl:IntKind.u16.wrap (out.length:Int)=out.length:=by rw[IntKind.wrap_u16];omega
        obtain⟨FR,hFR⟩:∃FR,IntKind.u16.wrap (ST-1)=FR:=⟨_,rfl⟩;have hmf:(ST+65535).tmod 65536=FR:=by rw[Int.tmod_eq_emod_of_nonneg Zo,←hFR,IntKind.wrap_u16];omega
        have hFb:0≤FR∧FR<65536:=by rw[←hFR,IntKind.wrap_u16];omega
        have hwf:IntKind.u16.wrap FR=FR:=by rw[IntKind.wrap_u16];omega
        rw[hwl,hFR]at vK DI;have x0:w8.cell? ⟨w,0,none⟩=some (.int .i64 xp):=Zc np.o.cu.lf 0 rfl;have x1:w8.cell? ⟨w,1,none⟩=some (.int .i64 xs):=Zc np.o.cu.lf 1 rfl
        go_upto_block 2 with(go_at_call 61;refine(CO.o _).mono ?_;rintro e w' ⟨rfl,rfl⟩)
        clear x0 x1 e14 hST MG hwl hmf hFb hwf;have MH:=Z9 w8 (.cells (Q9 (out.length:Int) 0 oo FR) 68);have rM:=Z' w8 (.cells (Q9 (out.length:Int) 0 oo FR) 68);generalize(w8.alloc (.cells (Q9 (out.length:Int) 0 oo FR) 68))=w9 at *;have vO:=Zh MH;have sJ:=Zh rM;have zp:=cell_of MH 1;have fp:=ZP MH 1;have HS9:=Zh (np.o.below rM);have HE9:=Zh ((rM.block _ (ZY HE8.o)).trans HE8.o)
        have zo:w9.cell? ⟨go,m,none⟩=some (.bool OJ):=by
         rw[HS9.o.cu.atO (j:=m) Zo];unfold RQ;rw[WV (by have:=HMM.o;omega),HOJ.o];rfl
        clear MH rM;go_cut [114,139] (fun s114 s139 wx=>∃TM,Below w8 w8 wx∧wx.heap[w8.heap.size]?=some (.cells (Q9 (out.length:Int) TM oo FR) 68)∧Hid (Z (m+1)=⟨out++[⟨(m:Int),(out.length:Int),TM,oo,FR,OJ⟩],if OJ=true then(m:Int)else(lX:Int),if OJ=true then TM else bg,ST⟩))
        case first=>as_aux_lemma=>
         cases OJ with
         | true=>
          by_cases hn:out.length=0
          ·have H8:decide ((0:Int)<(out.length:Int))=false:=WH Zo;have hn4:decide (0<out.length)=false:=WH Zo;have HX:=Zh (DI.o rfl 0 (by rw[Z3 Zo]));clear vK DI hn;go_wp2_with fail
           go_meet;exact⟨0,sJ.o,vO.o,HX.o⟩
          ·have H8:decide ((0:Int)<(out.length:Int))=true:=WV Zo;have hn4:decide (0<out.length)=true:=WV Zo;obtain⟨n,hnn⟩:∃n,out.length=n+1:=⟨out.length-1,Zo⟩;obtain⟨lq,-,-,gV⟩:=EK.o Zo;have HX:=Zh (DI.o rfl (IntKind.u32.wrap ((U4 out).time+3000)) (by rw[ZU Zo]));generalize(U4 out)=le at *;obtain⟨l1,l2,ltm,l4,l5,l6⟩:=le;have fM:(out.length:Int)-1=(n:Int):=by omega
           have hn3:(n:Int)<(out.length:Int):=by omega
           obtain⟨g5,o5,e5,V5⟩:=UI Xu 6 (fun _=>rfl) (Row.Z4 HS9.o.own) Zo;subst e5
           have z2:w9.cell? ⟨g5,o5+n*6+2,none⟩=some (.int .u32 ltm):=by
            have:=V5 (out.length-1) _ gV 2 Zo;rw[show out.length-1=n by omega]at this;exact this
           clear vK DI V5 hnn gV hn;go_wp2_with fail
           go_meet;exact⟨_,sJ.o.setCell (Zq _) _,(heap_setCell_same _ _ _ _ _ _ vO.o).trans rfl,HX.o⟩
         | false=>
          obtain⟨q1,q2,q3⟩:=HG8.o.resolve_left Zi;have HX:=Zh (vK.o rfl q1 q2 q3);have hY:=HY.o.below HS9.o.cu.Za;obtain⟨ca2,cn2,cc2,gN,en2,gP,pa2,pn2,pc2,ia2,im2,ic2,OA⟩:=hY.ev lX Zo;have y2:=hY.c2;have y4:w9.cell? ⟨g2,o2+lX*17+4,none⟩=some (.int .u32 (VQ L lX).pk.time):=OA 4 _ rfl;obtain⟨f1,f3,f4,f5,hf⟩:=HS9.o.fb;have z0:w9.cell? ⟨q,0,none⟩=some (.int .i64 (lX:Int)):=Zc hf 0 rfl;have z2:w9.cell? ⟨q,2,none⟩=some (.int .u32 bg):=Zc hf 2 rfl;have e4:w9.cell? ⟨ke,4,none⟩=some (.int .u32 tm):=Zc HE9.o 4 rfl;have hoI:(lX:Int)<(L.length:Int):=by omega
          rw[Wi]at HX;generalize(VQ L lX).pk.time=tm2 at *;clear vK DI q1 q2 q3 OA hY hf;go_upto_region 18 with fail
          go_still_tail 19,Zk
          go_wp2_with fail
          go_meet;exact⟨_,sJ.o.drew.setCell (Zq _) _,(heap_setCell_same _ _ _ _ _ _ (show w9.drew.heap[w8.heap.size]?=_ from vO.o)).trans rfl,HX.o⟩
        case rest=>
         obtain⟨TL,rfl⟩:∃W:World,W=wc:=⟨_,rfl⟩;obtain⟨TM,Ou,hp10,HZN⟩:=hcut;have dE:=Zh (np.o.below Ou);clear np HE8 HG8 vK DI EK ru vO sJ HS9 HE9 zp fp zo Ou;generalize w8.heap.size=kp at *
         have zo:TL.cell? ⟨go,m,none⟩=some (.bool OJ):=by
          rw[dE.o.cu.atO (j:=m) Zo];unfold RQ;rw[WV (by have:=HMM.o;omega),HOJ.o];rfl
         have Zv:Hid (∀w',Below TL TL w'→w'.heap[kp]?=some (.cells (Q9 (out.length:Int) TM oo FR) 68)∧w'.cell? ⟨go,m,none⟩=some (.bool OJ)):=fun w' h=>⟨(h.block _ (ZY hp10)).trans hp10,ZM zo h⟩
         clear hp10 zo;go_upto_region 21 with fail
         go_cut [13] (fun s13 wx=>s13 = .pointer (some ⟨TL,0,none⟩)∧wx.heap[TL.heap.size]?=some (.cells (Qp (m:Int) (out.length:Int) TM oo FR OJ) 70)∧Below TL TL wx)
         case first=>
          have hmJ:(m:Int)<(L.length:Int)+1:=by omega
          refine RX ?_;refine Zj (d:=8) (S:=(fun w'=>w'.heap[kp]?=some (.cells (Q9 (out.length:Int) TM oo FR) 68)∧w'.cell? ⟨go,m,none⟩=some (.bool OJ))) Zk ?_ (fun XY=>?_)
          ·exact Zv.o _ (YE _ _).drew
          refine YP 0 (h:=YP 2 (h:=YP 3 (h:=YP 4 (h:=?_))));refine tk 1 ?_ rfl ?_ <| ?_
          rotate_left
          ·intro wS Ud;(try dsimp only at Ud)
           refine VG 68 (.tmp 12) ?_ kp ?_ 68 (Q9 (out.length:Int) TM oo FR) (0,0) _ Ud.1 underlying68 rfl Zk;all_goals rfl
          try simp only[pt]
          refine YK 5 (h:=YP 6 (h:=?_));refine YR 7 (h:=fun K hK=>?_);go_simp;refine YY hK _ _ ?_ (fun XC=>?_)
          ·exact Zv.o _ (by first|exact(YE _ _).drew|exact ZA (YE _ _).drew (Zq _) _)
          clear hK K;try simp only[pt]
          refine YR 8 (h:=fun K hK=>?_);rw[ZU Zr];refine wp_store_row 70 (.tmp 13) (.tmp 159) rfl TL.drew.heap.size (Qp (m:Int) (out.length:Int) TM oo FR OJ) rfl rfl 70 _ (Z9 TL.drew (.cells (Qp 0 0 0 0 0 false) 70)) Zk Zk Zk ?_;refine Ye hK _ _ Zk ?_;clear hK K;try simp only[pt]
          refine Yt Zk ?_ _;refine QP ?_;go_wp2_with fail
          go_meet;exact⟨rfl,setRow_heap _ _ _ _ _ _ (Z9 TL.drew (.cells (Qp 0 0 0 0 0 false) 70)),Z0 (ZA (YE TL TL).drew (Zq _) _) (Zq _) _⟩
         case rest=>
          obtain⟨Gl,rfl⟩:∃W:World,W=wc:=⟨_,rfl⟩;obtain⟨rfl,hm11,xS⟩:=hcut;have iP:=Zh (dE.o.below xS);have hqk:=dE.o.sz;have wI:=Zh hm11;clear dE Zv xS hm11;generalize TL.heap.size=km at *
          have zo:Gl.cell? ⟨go,m,none⟩=some (.bool OJ):=by
           rw[iP.o.cu.atO (j:=m) Zo];unfold RQ;rw[WV (by have:=HMM.o;omega),HOJ.o];rfl
          go_upto_if 163 with fail
          go_cut [] (fun wx=>SB w wx (Qb xp xs (a:Int) (f:Int)) gc go L.length (PO S mm) (RQ O mm) q (if OJ=true then(m:Int)else(lX:Int)) (if OJ=true then TM else bg) (.slice ov out.length oc) out∧wx.heap[km]?=some (.cells (Qp (m:Int) (out.length:Int) TM oo FR OJ) 70))
          case first=>as_aux_lemma=>
           cases OJ with
           | false=>
            go_wp2_with fail
            go_meet;exact⟨iP.o,wI.o⟩
           | true=>
            obtain⟨f1,f3,f4,f5,hf⟩:=iP.o.fb;go_wp2_with (first|with_reducible refine Zl wI.o underlying70 ?_|with_reducible refine Zs hf ?_)
            go_meet;exact⟨iP.o.setF _ _ _ _ _ _,(setRow_other _ _ _ _ Zo).trans wI.o⟩
          case rest=>
           obtain⟨cK,rfl⟩:∃W:World,W=wc:=⟨_,rfl⟩;obtain⟨hs12,hm12⟩:=hcut;have HS12:=Zh (hs12.below (Z' cK (.cells (Qp (m:Int) (out.length:Int) TM oo FR OJ) 70)));have HM12:=Zh hm12;have HN:Hid (Row (cK.alloc (.cells (Qp (m:Int) (out.length:Int) TM oo FR OJ) 70)) 70 (.slice (some ⟨cK,0,none⟩) 1 1) 1 (Qp (m:Int) (out.length:Int) TM oo FR OJ)):=Vw cK 70 1 (Qp (m:Int) (out.length:Int) TM oo FR OJ) Zd
           have HONE:Hid (∀u∈((Qp (m:Int) (out.length:Int) TM oo FR OJ):List Value),u.oneCell'=true):=fun u hu=>by
            simp only[K5,List.mem_nil_iff,or_false]at hu;rcases hu with rfl|rfl|rfl|rfl|rfl|rfl <;> rfl
           clear hs12 hm12 iP wI zo;go_wp2_with (first|with_reducible refine Zl HM12.o underlying70 ?_|(at_builtin;refine YN rfl (.tmp 165) (.tmp 167) 61 rfl (q+1) Ax (.slice ov out.length oc) out.length (out.flatMap Xu) rfl HS12.o.own _ 1 (Qp (m:Int) (out.length:Int) TM oo FR OJ) rfl HN.o rfl HONE.o Zo Zo HS12.o.sz (fun v14 w14 HO14 HG14=>?_);obtain⟨U2,c14,h14⟩:=Row.form (Row.Z4 HO14.o);subst h14))
           have HS14:Hid (SB w w14 (Qb xp xs (a:Int) (f:Int)) gc go L.length (PO S mm) (RQ O mm) q (if OJ=true then(m:Int)else(lX:Int)) (if OJ=true then TM else bg) (.slice U2 (out++[(⟨(m:Int),(out.length:Int),TM,oo,FR,OJ⟩:ED)]).length c14) (out++[(⟨(m:Int),(out.length:Int),TM,oo,FR,OJ⟩:ED)])):=by
            show SB _ _ _ _ _ _ _ _ _ _ _ _ _;rw[UC];refine HS12.o.grown HG14.o ?_;rw[UC,O7];exact HO14.o
           go_roundw
           case rel=>exact⟨m+1,U2,c14,Zo,Zo,Zn,by rw[HZN.o];show _=Value.slice _ (out++[_]).length _;rw[UC];rfl,by rw[HZN.o],by rw[HZN.o];exact HS14.o⟩
           case measure=>simp[intOf];omega
   ·have kH:m=f:=by omega
    subst kH;have hm2I:¬((m:Int)<(m:Int)):=by omega
    go_wp2_with fail
    go_ret;exact⟨⟨_,rfl,Row.Z4 iU.o.own⟩,iU.o.cu.Za⟩
 ·have CI:=Zh (fun(w':World) (hb:Below w w w') (at':Int)=>(show(decide (x∈Zg L L.length L.length)&&there x at')=false by rw[WH hx];rfl)▸(h.below hb).is x at');have HS:Hid (UJ L x=[]):=Z3 hx;rw[HS.o];clear h hx HS;obtain⟨xp,xs,xb,xf⟩:=x;dsimp only[Z5]at *;have hz:=Z9 w (.cells (Qb xp xs xb xf) 59);have HB:Hid (Below w w (w.alloc (.cells (Qb xp xs xb xf) 59))):=Z' w _;have x2:(w.alloc (.cells (Qb xp xs xb xf) 59)).cell? ⟨w,2,none⟩=some (.int .i64 xb):=Zc hz 2 rfl;have HZ:=Zh hz;clear hz;go_enter func30,ntmps30;go_wp2_with (first|with_reducible refine Zl HZ.o underlying59 ?_|(go_at_call 57;refine(CI.o _ HB.o _).mono ?_;rintro e w2 ⟨rfl,Y7⟩;have Yc:Hid (Below w w w2):=Tr HB Y7;clear Y7))
  go_ret;exact⟨⟨_,rfl,Row.nil _ _⟩,Yc.o⟩
def BW{w:World}{a:Option Addr}{n c:Nat}{l:List ED}(h:Row w 70 (.slice a n c) n (l.flatMap Xu)){j:Nat}{z:ED}(hz:l[j]?=some z):∃g o,a=some ⟨g,o,none⟩∧w.rangeAt g (o+j*6) (Xu z):=by
 exact Yx70
def tj(a b:Value)(l:List ED)(w:World)(ha:Row w 70 a l.length (l.flatMap Xu))(hb:Row w 70 b l.length (l.flatMap Xu))(hl:l.length≤100000) :
  Calls prog 28 #[a,b] w fun e w'=>e = .returned (.bool true)∧Below w w w':=by
 obtain⟨aa,ac,rfl⟩:=Row.form ha;obtain⟨ba,bc,rfl⟩:=Row.form hb;have HA:=Zh ha;have HB:=Zh hb;clear ha hb;go_enter func28,ntmps28;go_wp2_with fail
 go_loopw [13] (fun s13 w'=>∃j:Nat,j≤l.length∧s13 = .int .i64 (j:Int)∧Below w w w') (fun s13 _=>l.length-(intOf s13).toNat)
 case atStart=>exact⟨0,Zo,rfl,YE _ _⟩
 case round=>
  obtain⟨j,hj,rfl,Xp⟩:=hrel;have Sq:=Zh Xp;by_cases RZ:j<l.length
  ·have hz:l[j]?=some l[j]:=U' RZ;obtain⟨ga,oa,ea,ra⟩:=BW (HA.o.below Xp) hz;obtain⟨gb,ob,eb,rb⟩:=BW (HB.o.below Xp) hz;subst ea;subst eb;generalize l[j]=z at *;obtain⟨z1,z2,z3,z4,z5,z6⟩:=z;have x0:=ra 0 _ rfl;have x1:=ra 1 _ rfl;have x2:=ra 2 _ rfl;have x3:=ra 3 _ rfl;have x4:=ra 4 _ rfl;have x5:=ra 5 _ rfl;have y0:=rb 0 _ rfl;have y1:=rb 1 _ rfl;have y2:=rb 2 _ rfl;have y3:=rb 3 _ rfl;have y4:=rb 4 _ rfl;have y5:=rb 5 _ rfl;rw[bG]at x0 y0;have Cj:(j:Int)<(l.length:Int):=PM.2 RZ;clear ra rb hz Xp;go_wp2_with fail
   go_quiet (fail)
   have sJ:=Zh (below_drewN Sq.o nq);go_wp2_with fail
   go_roundw
   case rel=>exact⟨j+1,Zo,Zn,sJ.o⟩
   case measure=>simp[intOf];omega
  ·have K6:j=l.length:=by omega
   clear Xp;subst K6;go_wp2;go_ret;exact⟨rfl,Sq.o⟩
def bX:Zt:=⟨2,3,3,5⟩
def bAdms(h:Nat):XV (E0 h) 5=[⟨2,0,1,0⟩,⟨2,0,2,0⟩,⟨2,0,3,0⟩,⟨2,0,4,0⟩,⟨1,3,4,0⟩]:=by kernel_rfl
def bLives(h:Nat):Zg (E0 h) ((5:Nat):Int) 5=[bX]:=by kernel_rfl
def A_(w:World):Calls prog 86 (Qw 7 10) w fun e w'=>e = .returned (.slice (some ⟨w,0,none⟩) 17 17)∧w'=w.alloc (.cells (Re pk7).toArray 5):=by
 go_enter func86,ntmps86;go_wp2;go_ret;exact⟨rfl,rfl⟩
def xg(w:World):Calls prog 54 #[] w fun e w'=>e = .returned (.slice (some ⟨w.heap.size+2,0,none⟩) 5 5)∧JQ w' (.slice (some ⟨w.heap.size+2,0,none⟩) 5 5) (E0 w)∧Below w w w':=by
 have C:=Zh A_;go_enter func54,ntmps54;go_wp2_with (go_at_call 86;refine(C.o _).mono ?_;rintro e w2 ⟨rfl,rfl⟩)
 exact Yx33
def opbs_r{w:World}{v:Value}{L:List WR}(h:JQ w v L):Wu w v L:=⟨h.row.r,fun y hy=>⟨(h.each y hy).1.r,(h.each y hy).2.1.r,(h.each y hy).2.2⟩⟩
def I9{w:World}{e:TypeId}{a:Option Addr}{n c:Nat}{xs:List Value}(h:Row w e (.slice a n c) n xs)(hl:0<xs.length):∃g o,a=some ⟨g,o,none⟩∧w.rangeAt g o xs:=by
 obtain⟨g,o,cap,h1,_,_,_,h5⟩:=Row.open h hl;injection h1 with e1 _ _
 exact⟨g,o,e1,fun m v hm=>(h5 m (List.getElem?_eq_some_iff.1 hm).1).trans hm⟩
def o8(v:Value)(L:List WR)(w:World)(h:Wu w v L):Calls prog 26 #[v] w fun e w'=>(∃v',e = .returned v'∧Wu w' v' (L.take 60))∧w=w':=by
 obtain⟨va,vc,rfl,hvc,x8⟩:=h.form;obtain⟨K,hKd⟩:∃K,K=min L.length 60:=⟨_,rfl⟩;have hK1:K≤L.length:=by omega
 have hKm:min (L.length:Int) 60=(K:Int):=by omega
 obtain⟨vs,Uf,-,Fw⟩:=RT (P:=prog) tO va L.length vc K Zo
 have HO:Hid (Wu w (.slice vs K vc) (L.take 60)):=by
  have h2:=h.take hK1 Fw
  have e:L.take K=L.take 60:=by
   rcases Nat.le_total L.length 60 with h3|h3
   ·rw[hKd,Nat.min_eq_left h3,nv,Ex h3]
   ·rw[hKd,Nat.min_eq_right h3]
  rwa[e]at h2
 clear h Fw hKd;go_enter func26,ntmps26;go_wp2;go_ret;exact⟨⟨_,rfl,HO.o⟩,rfl⟩
def eB(h:Nat):UJ (E0 h) bX=[⟨4,0,0,Xl 2 3,0,true⟩]:=by kernel_rfl
def eA(h:Nat):JY (E0 h) bX 5=0:=by kernel_rfl
def ez(h:Nat):JY (E0 h) bX 4=-1:=by kernel_rfl
def jN(h:Nat):QY (E0 h) We 1=true:=by kernel_rfl
def zm(w:World)(hT:Xn w):Calls prog 25 #[] w fun e w'=>e = .returned (.bool true)∧Below w w w':=by
 have CB:=Zh (xg w);have HT:Hid (∀w',Below w w w'→Xn w'):=fun w' h=>Utf8Tabs_below hT h
 have CO:=Zh (fun w'=>F9 2 3 w');clear hT;go_enter func25,ntmps25;go_upto_region 2 with(go_at_call 54;refine CB.o.mono ?_;rintro e w1 ⟨rfl,ho,YV⟩;have HO:=Zh (opbs_r ho);have U_:=Zh YV;clear ho YV)
 generalize(w.heap.size+2)=H2 at *;have CA:=Zh (wW _ _ w1 (HT.o _ U_.o) HO.o (by show 5≤256;decide));have CL:=Zh (fun(w':World) (hb:Below w1 w1 w')=>sY _ _ w' (HT.o _ (Tr U_ hb)) (HO.o.below hb) (by show 5≤256;decide));have CS:=Zh (fun(w':World) (hb:Below w1 w1 w')=>BI _ _ bX w' (HT.o _ (Tr U_ hb)) (HO.o.below hb) (by show 5≤256;decide));have C5':=(fun(at':Int) (w':World) (hb:Below w1 w1 w')=>jf _ _ bX at' w' (HT.o _ (Tr U_ hb)) (HO.o.below hb) (by show 5≤256;decide));have CQ':=(fun(w':World) (hb:Below w1 w1 w')=>sZ _ _ We 1 w' (HT.o _ (Tr U_ hb)) (HO.o.below hb) (by show 5≤256;decide));have hlen:(E0 w).length=5:=rfl;rw[hlen]at CA CL;rw[bAdms]at CA;simp only[bLives]at CL;have cE:=eB w.heap.size;have hc5:=eA w.heap.size;have hc4:=ez w.heap.size;have hq:=jN w.heap.size;simp only[cE]at CS;have C5:=Zh (C5' 5);have C4:=Zh (C5' 4);have CQ:=Zh CQ';rw[hc5]at C5;rw[hc4]at C4;rw[hq]at CQ;clear C5' CQ' hc5 hc4 hq cE hlen HT CB HO;dsimp only[Z5,bX,We]at CS C5 C4 CQ;generalize Xl 2 3=OU at *
 go_upto_region 4 with(first|(go_at_call 24;refine CA.o.mono ?_;rintro e w2 ⟨⟨av,rfl,ha⟩,Y7⟩;obtain⟨aa,ac,hav⟩:=Row.form ha;subst hav;have HA:=Zh ha;have Yc:=Zh Y7;clear ha Y7)|(go_at_call 27;refine(CL.o _ Yc.o).mono ?_;rintro e w3 ⟨⟨lv,rfl,hl⟩,WM⟩;obtain⟨la,lc,ub⟩:=Row.form hl;subst ub;have HL:=Zh hl;have WB:=Zh (Tr Yc WM);have HA3:=Zh (Row.below HA.o WM);clear hl WM))
 obtain⟨ga,oa,hga,hra⟩:=I9 HA3.o Zd;obtain⟨gx,ox,hgx,hrx⟩:=I9 HL.o Zd;subst hga;subst hgx;have TI:w3.cell? ⟨ga,oa+16,none⟩=some (.int .i64 1):=hra 16 _ rfl;have QR:w3.cell? ⟨ga,oa+16+2,none⟩=some (.int .i64 4):=hra 18 _ rfl;have x0:w3.cell? ⟨gx,ox,none⟩=some (.int .i64 2):=hrx 0 _ rfl;have x1:w3.cell? ⟨gx,ox+1,none⟩=some (.int .i64 3):=hrx 1 _ rfl;have x2:w3.cell? ⟨gx,ox+2,none⟩=some (.int .i64 3):=hrx 2 _ rfl;have x3:w3.cell? ⟨gx,ox+3,none⟩=some (.int .i64 5):=hrx 3 _ rfl;have X0:=Zh x0;have X1:=Zh x1;have X2:=Zh x2;have X3:=Zh x3;clear hra hrx;go_upto_region 7 with(go_at_call 29;refine(CS.o _ WB.o).mono ?_;rintro e w6 ⟨⟨ev,rfl,he⟩,Cg⟩;obtain⟨ea,ec,LQ⟩:=Row.form he;subst LQ;have HE:=Zh he;have HB36:=Zh Cg;have iu:=Zh (Tr WB Cg);clear he Cg)
 obtain⟨ge,oe,hge,fP⟩:=I9 HE.o (by show 0<6;decide);subst hge;have nX:=Zh fP;clear TI QR x0 x1 x2 x3 fP
 have Zv:Hid (∀w',Below w6 w6 w'→w'.cell? ⟨gx,ox,none⟩=some (.int .i64 2)∧w'.cell? ⟨gx,ox+1,none⟩=some (.int .i64 3)∧w'.cell? ⟨gx,ox+2,none⟩=some (.int .i64 3)∧w'.cell? ⟨gx,ox+3,none⟩=some (.int .i64 5)∧w'.cell? ⟨ge,oe,none⟩=some (.int .i64 4)∧w'.cell? ⟨ge,oe+1,none⟩=some (.int .u16 0)∧w'.cell? ⟨ge,oe+2,none⟩=some (.int .u32 0)∧w'.cell? ⟨ge,oe+3,none⟩=some (.int .u32 OU)∧w'.cell? ⟨ge,oe+4,none⟩=some (.int .u16 0)∧w'.cell? ⟨ge,oe+5,none⟩=some (.bool true)):=fun w' hb=>
  have WM:=Tr HB36 hb
  ⟨ZM X0.o WM,ZM X1.o WM,ZM X2.o WM,ZM X3.o WM,ZM (nX.o 0 _ rfl) hb,ZM (nX.o 1 _ rfl) hb,ZM (nX.o 2 _ rfl) hb,ZM (nX.o 3 _ rfl) hb,ZM (nX.o 4 _ rfl) hb,ZM (nX.o 5 _ rfl) hb⟩
 refine RX ?_;refine Zj (d:=51) (S:=(fun w'=>w'.cell? ⟨gx,ox,none⟩=some (.int .i64 2)∧w'.cell? ⟨gx,ox+1,none⟩=some (.int .i64 3)∧w'.cell? ⟨gx,ox+2,none⟩=some (.int .i64 3)∧w'.cell? ⟨gx,ox+3,none⟩=some (.int .i64 5)∧w'.cell? ⟨ge,oe,none⟩=some (.int .i64 4)∧w'.cell? ⟨ge,oe+1,none⟩=some (.int .u16 0)∧w'.cell? ⟨ge,oe+2,none⟩=some (.int .u32 0)∧w'.cell? ⟨ge,oe+3,none⟩=some (.int .u32 OU)∧w'.cell? ⟨ge,oe+4,none⟩=some (.int .u16 0)∧w'.cell? ⟨ge,oe+5,none⟩=some (.bool true))) X6 ?_ (fun _=>?_)
 ·exact Zv.o _ (YE _ _).drew
 refine YP 0 (h:=YP 1 (h:=YP 3 (h:=YQ 2 [48,45,40,37,32,28,23,17,10,5,4] (h:=YP 4 (h:=YP 5 (h:=YP 6 (h:=YP 7 (h:=YP 8 (h:=YP 9 (h:=YP 10 (h:=YP 11 (h:=YP 12 (h:=YP 13 (h:=YQ 14 [48,45,40,37,32,28,23,17,16,15] (h:=YP 15 (h:=YP 16 (h:=YP 17 (h:=YP 18 (h:=YP 19 (h:=YP 20 (h:=YQ 21 [48,45,40,37,32,28,23,22] (h:=YP 22 (h:=YP 23 (h:=YP 24 (h:=YP 25 (h:=YP 26 (h:=YQ 27 [48,45,40,37,32,31,30] (h:=?_))))))))))))))))))))))))))));refine YR 28 (h:=fun K hK=>?_);go_simp;refine(CO.o _).mono ?_;rintro e w' ⟨rfl,rfl⟩;go_wp2_with fail
 refine YY hK _ _ ?_ (fun _=>?_)
 ·exact Zv.o _ Yo31
 clear hK K;try simp only[pt]
 refine YP 29 (h:=YP 30 (h:=YP 31 (h:=YP 32 (h:=YP 33 (h:=YP 34 (h:=YP 35 (h:=YQ 36 [48,45,40,37] (h:=?_))))))));refine YR 37 (h:=fun K hK=>?_);go_simp;refine(C5.o _ (iu.o.trans ((YE w6 w6).drew.mono iu.o.size))).mono ?_;rintro e w7 ⟨rfl,LP⟩;have zS:=Zh ((YE w6 w6).drew.trans LP);clear LP;go_wp2_with fail
 refine YY hK _ _ ?_ (fun _=>?_)
 ·exact Zv.o _ Yo31
 clear hK K;try simp only[pt]
 refine YP 38 (h:=YP 39 (h:=YP 40 (h:=YP 41 (h:=YP 42 (h:=YP 43 (h:=YQ 44 [48,45] (h:=?_)))))));refine YR 45 (h:=fun K hK=>?_);go_simp;refine(C4.o _ (Tr iu zS.o)).mono ?_;rintro e w8 ⟨rfl,fx⟩;have HB8:=Zh (Tr zS fx);clear fx;go_wp2_with fail
 refine YY hK _ _ ?_ (fun _=>?_)
 ·exact Zv.o _ Yo31
 clear hK K;try simp only[pt]
 refine YP 46 (h:=YP 47 (h:=YP 48 (h:=YP 49 (h:=YP 50 (h:=?_)))));refine YR 51 (h:=fun K hK=>?_);go_simp;refine(CQ.o _ (Tr iu HB8.o)).mono ?_;rintro e w9 ⟨rfl,rM⟩;have sJ:=Zh (Tr HB8 rM);clear rM;go_wp2_with fail
 refine Ye hK _ _ X6 ?_;clear hK K;try simp only[pt]
 refine YP 52 (h:=YP 53 (h:=?_));refine Yt X6 ?_ _;refine QP ?_;go_wp2_with fail
 go_ret;exact⟨rfl,U_.o.trans ((Tr iu sJ.o).mono U_.o.size)⟩
section
open Go.ChangeShapes Go.WideShapes Go.ChangeAt
def pZ(l:List Zt):∀u∈l.flatMap Z5,u.oneCell'=true:=fun u hu=>by
 obtain⟨z,-,hz⟩:=List.mem_flatMap.1 hu;exact FJ z u hz
def qG(L:List WR)(z:Zt):(UJ L z).length≤L.length:=by
 unfold UJ;split
 ·exact(Si L z L.length).len
 ·exact Tv _
def Iz(v:Value)(L0:List WR)(x:Zt)(w:World)(hT:Xn w)(hv:Wu w v L0):Calls prog 8 #[v,.agg (Z5 x).toArray] w fun e w'=>e = .returned (.bool true)∧Below w w w':=by
 obtain⟨xp,xs,xb,xf⟩:=x;dsimp only[Z5];have hz:=Z9 w (.cells (Qb xp xs xb xf) 59);have HB:Hid (Below w w (w.alloc (.cells (Qb xp xs xb xf) 59))):=Z' w _;have vX:w.heap.size<(w.alloc (.cells (Qb xp xs xb xf) 59)).heap.size:=by rw[size_alloc];omega
 have HZ:=Zh hz;have CS:=Zh (zm (w.alloc (.cells (Qb xp xs xb xf) 59)) (Utf8Tabs_below hT HB.o));have CF:=Zh (fun(w':World) (h:Below w w w')=>o8 v L0 w' (hv.below h));have HT:Hid (∀w',Below w w w'→Xn w'):=fun w' h=>Utf8Tabs_below hT h
 have hL:(L0.take 60).length≤60:=by rw[SC];omega
 generalize L0.take 60=L at *;have CY:=Zh (fun(v':Value) (w':World) (hT:Xn w') (h:Wu w' v' L)=>dL v' L w' hT h Zo);have CSP:=Zh (fun(v':Value) (x:Zt) (w':World) (hT:Xn w') (h:Wu w' v' L)=>BI v' L x w' hT h Zo);have GZ:=Zh (qG L);clear hT hv hz;go_enter func8,ntmps8;go_upto_region 1 with fail
 generalize(w.alloc (.cells (Qb xp xs xb xf) 59))=w0 at *;go_upto_region 5 with(first|(go_at_call 25;refine CS.o.mono ?_;rintro e w1 ⟨rfl,YV⟩;have VA:Hid (Below w w w1):=Tr HB YV;have HZ1:=Zh ((YV.block _ (ZY HZ.o)).trans HZ.o);clear YV)|(go_at_call 26;refine(CF.o _ VA.o).mono ?_;rintro e w' ⟨⟨v',rfl,ho⟩,rfl⟩;obtain⟨va,vc,fV,hvc,x8⟩:=Wu.form ho;subst fV;have HO:=Zh ho;clear ho)|(go_at_call 17;refine(CY.o _ _ (HT.o _ VA.o) HO.o).mono ?_;rintro e w3 ⟨k,rb,vs,vc2,av,ev,lv,E,T,RY,epY,rfl,LW⟩;have Yc:=Zh LW.Za;have ZW:=Row.Z4 LW.st.P6;obtain⟨la,lc,ub⟩:=Row.form ZW;subst ub;have rq:=Zh LW;clear LW ZW))
 have HYR:Hid (vR w3 k L):=⟨Zo,_,_,_,_,_,_,_,_,_,_,_,rq.o⟩;have WB:Hid (Below w w w3):=Tr VA Yc.o;have HO3:=Zh (HO.o.below Yc.o);have aH:Hid (∀w',Below w3 w3 w'→Xn w'):=fun w' h=>HT.o _ (Tr WB h)
 have ry:=Zh ((Yc.o.block _ (ZY HZ1.o)).trans HZ1.o);have pA:w3.cell? ⟨k,3,none⟩=some (.slice la (Zg L L.length L.length).length lc):=Zc rq.o.st.Y8 3 rfl;have ZW:=Row.Z4 rq.o.st.P6;have hlb:(Zg L L.length L.length).length≤6144000:=PJ (RJ L L.length L.length) Zo;clear CS CF CY HO HT rq VA Yc HB HZ HZ1 vX;have CS:=Zh (fun x w' (h:Below w3 w3 w')=>CSP.o _ x w' (aH.o _ h) (HO3.o.below h));have RS:=Zh (fun x w' (h:Below w3 w3 w')=>sentR (HYR.o.below h) x);clear CSP HYR aH HO3;generalize Zg L L.length L.length=LS at *;generalize UJ L=FS at *;have iH:=Zh (fun w' (h:Below w3 w3 w')=>Row.below ZW h);have Zv:Hid (∀w',Below w3 w3 w'→w'.heap[w.heap.size]?=some (.cells (Qb xp xs xb xf) 59)∧w'.cell? ⟨k,3,none⟩=some (.slice la LS.length lc)):=fun w' h=>⟨(h.block _ (ZY ry.o)).trans ry.o,ZM pA h⟩
 clear ZW pA;go_cut [20,21,22] (fun s20 s21 gy wx=>∃aa ac,s20 = .slice aa (1+LS.length) ac∧s21 = .int .i64 ((1+LS.length:Nat):Int)∧gy = .int .i64 0∧Row wx 59 (.slice aa (1+LS.length) ac) (1+LS.length) ([(⟨xp,xs,xb,xf⟩:Zt)].flatMap Z5++LS.flatMap Z5)∧Below w3 w3 wx)
 case first=>
  refine RX ?_;refine Zj (d:=6) (S:=(fun w'=>w'.heap[w.heap.size]?=some (.cells (Qb xp xs xb xf) 59)∧w'.cell? ⟨k,3,none⟩=some (.slice la LS.length lc))) Zk ?_ (fun XY=>?_)
  ·exact Zv.o _ (YE _ _).drew
  refine YP 2 (h:=YP 3 (h:=YP 4 (h:=YP 8 (h:=?_))));refine tk 0 ?_ rfl ?_ <| ?_
  rotate_left
  ·intro wS Ud;(try dsimp only at Ud)
   refine VG 59 (.tmp 3) ?_ w ?_ 59 (Qb xp xs xb xf) (0,0) _ Ud.1 underlying59 rfl Zk;all_goals rfl
  try simp only[pt]
  refine YK 5 (h:=?_);refine YR 1 (h:=fun K hK=>?_);go_simp;refine YY hK _ _ ?_ (fun XC=>?_)
  ·exact Zv.o _ (by first|exact(YE _ _).drew|exact ZA (YE _ _).drew (Zq _) _)
  clear hK K;try simp only[pt]
  refine YR 6 (h:=fun K hK=>?_);refine Y9 Zr (.tmp 15) (.tmp 19) 39 Zr w3 Mz (.slice (some ⟨w3,0,none⟩) 1 1) 1 ([(⟨xp,xs,xb,xf⟩:Zt)].flatMap Z5) Zr (OH w3.drew 59 4 1 w3 w3.heap.size ([(⟨xp,xs,xb,xf⟩:Zt)].flatMap Z5) rfl Zd rfl (Zq _)) (.slice la LS.length lc) LS.length (LS.flatMap Z5) Zr (iH.o _ (ZA (YE _ _).drew (Zq _) _)) (XH Z5 4 (fun _=>rfl) LS) (pZ LS) Zo Zo (by show w3.heap.size≤(w3.drew.alloc _).heap.size;rw[size_alloc];exact JV _) ?_;intro v4 w4 HO4 HG4;have dH:Hid (Below w3 w3 w4):=(ZA (YE w3 w3).drew (Zq _) (.cells (Qb xp xs xb xf) 59)).grown HG4.o (by rw[size_alloc];exact JV _) (fun k hk=>by cases hk;exact Zq _);obtain⟨aa,ac,hv4⟩:=Row.form (Row.Z4 HO4.o);subst hv4;refine Ye hK _ _ Zk ?_;clear hK K;try simp only[pt]
  refine YP 7 (h:=?_);refine Yt Zk ?_ _;refine QP ?_;go_wp2_with fail
  go_meet;exact⟨aa,ac,rfl,rfl,rfl,Row.Z4 HO4.o,dH.o⟩
 case rest=>
  obtain⟨w5,rfl⟩:∃W:World,W=wc:=⟨_,rfl⟩;obtain⟨aa,ac,rfl,rfl,rfl,hra,Xp⟩:=hcut;have aF:Hid (Row w5 59 (.slice aa (1+LS.length) ac) (1+LS.length) (((⟨xp,xs,xb,xf⟩:Zt) :: LS).flatMap Z5)):=hra;have GV:=Zh Xp;have hAL:((⟨xp,xs,xb,xf⟩:Zt) :: LS).length=1+LS.length:=by rw[List.length_cons];omega
  generalize((⟨xp,xs,xb,xf⟩:Zt) :: LS)=AL at *;rw[←hAL]at aF;rw[←hAL];have hAB:AL.length≤6144001:=by omega
  clear hra Xp Zv iH ry hAL;go_wp2_with fail
  go_loopw [22] (fun gy w'=>∃i:Nat,i≤AL.length∧gy = .int .i64 (i:Int)∧Below w5 w5 w') (fun gy _=>AL.length-(intOf gy).toNat)
  case atStart=>exact⟨0,Zo,rfl,YE _ _⟩
  case round=>
   obtain⟨i,hi,rfl,Xp⟩:=hrel;have HBI:=Zh Xp;by_cases kB:i<AL.length
   ·obtain⟨gl,ol,el,V5⟩:=UI Z5 4 (fun _=>rfl) (aF.o.below Xp) Zo;subst el;have hx:AL[i]?=some AL[i]:=U' kB;have V5:=V5 i _ hx;clear hx;generalize AL[i]=z at *;obtain⟨zp,zs,zb,zf⟩:=z;have Nk:wr.rangeAt gl (ol+i*4) (Qb zp zs zb zf):=fun m' v' hm'=>(V5 m' (by have h:=(List.getElem?_eq_some_iff.1 hm').1;simpa using h)).trans hm'
    have hiI:(i:Int)<(AL.length:Int):=PM.2 kB;have hz:=Z9 wr (.cells (Qb 0 0 0 0) 59);have SA:=setRow_heap _ _ _ (Qb zp zs zb zf) _ _ hz;have U5:Hid (Below w5 w5 (((wr.alloc (.cells (Qb 0 0 0 0) 59)).setRow wr (Qb zp zs zb zf)))):=Xp.trans ((Z0 (Z' wr _) (Zq _) _).mono Xp.size);have CSZ:=Zh (CS.o ⟨zp,zs,zb,zf⟩);have RSZ:=Zh (RS.o ⟨zp,zs,zb,zf⟩);have HLZ:=GZ.o ⟨zp,zs,zb,zf⟩;generalize FS ⟨zp,zs,zb,zf⟩=GS at *;dsimp only[Z5]at CSZ RSZ;clear V5 Xp CS RS GZ;go_upto_region 8 with(first|with_reducible refine Zm Nk underlying59 ?_|with_reducible refine Zs hz ?_)
    clear hz Nk;generalize(((wr.alloc (.cells (Qb 0 0 0 0) 59)).setRow wr (Qb zp zs zb zf)))=w4 at *;generalize wr.heap.size=kz at *;have aI:=Zh SA;have iu:Hid (∀w',Below w5 w5 w'→Below w3 w3 w'):=fun w' h=>Tr GV h
    have SI:Hid (∀w',Below w4 w4 w'→w'.heap[kz]?=some (.cells (Qb zp zs zb zf) 59)):=fun w' h=>(h.block _ (ZY aI.o)).trans aI.o
    have CS:=Zh (fun w' (h:Below w4 w4 w')=>CSZ.o w' (iu.o w' (Tr U5 h)));have RS:=Zh (fun w' (h:Below w4 w4 w')=>RSZ.o w' (iu.o w' (Tr U5 h)));have vJ:=Zh (YE w4 w4);have Zv:=SI;clear SA aI CSZ RSZ SI;refine RX ?_;refine Zj (d:=6) (S:=(fun w'=>w'.heap[kz]?=some (.cells (Qb zp zs zb zf) 59))) Zk ?_ (fun XY=>?_)
    ·exact Zv.o _ vJ.o.drew
    refine YP 0 (h:=YP 3 (h:=?_));refine tkp 1 [2] ?_ rfl ?_ <| ?_
    rotate_left
    ·exact Yt21
    try simp only[pt]
    refine tkp 4 [5] ?_ rfl ?_ <| ?_
    rotate_left
    ·exact Yt21
    try simp only[pt]
    refine YR 2 (h:=fun K hK=>?_);go_simp;refine(CS.o _ vJ.o.drew).mono ?_;rintro e wA ⟨⟨ev,rfl,LQ⟩,hb⟩;have HCA:Hid (Below w4 w4 wA):=vJ.o.drew.trans (hb.mono vJ.o.drew.size);have BC:=Zh LQ;clear hb LQ;go_wp2_with fail
    refine YY hK _ _ ?_ (fun XC=>?_)
    ·exact Zv.o _ (by first|exact au.o|exact HCA.o|exact vJ.o.drew)
    clear hK K;try simp only[pt]
    refine YR 5 (h:=fun K hK=>?_);go_simp;refine(RS.o _ HCA.o).mono ?_;rintro e wB ⟨⟨rv,rfl,hrv⟩,hb⟩;have au:Hid (Below w4 w4 wB):=Tr HCA hb;have HEV2:=Zh (Row.below BC.o hb);have M8:=Zh hrv;clear hb hrv;go_wp2_with fail
    refine YY hK _ _ ?_ (fun Vq=>?_)
    ·exact Zv.o _ (by first|exact au.o|exact HCA.o|exact vJ.o.drew)
    clear hK K;try simp only[pt]
    refine YR 6 (h:=fun K hK=>?_);go_simp;refine(tj _ _ _ wB HEV2.o M8.o Zo).mono ?_;rintro e wD ⟨rfl,hb⟩;have HCD:Hid (Below w4 w4 wD):=Tr au hb;clear hb;go_wp2_with fail
    refine Ye hK _ _ Zk ?_;clear hK K;try simp only[pt]
    refine YP 7 (h:=?_);refine Yt Zk ?_ _;refine QP ?_;go_wp2_with fail
    go_roundw
    case rel=>exact⟨i+1,Zo,Zn,Tr U5 HCD.o⟩
    case measure=>simp[intOf];omega
   ·have hii:i=AL.length:=by omega
    subst hii;clear Xp;go_wp2_with fail
    go_ret;exact⟨rfl,WB.o.trans ((Tr GV HBI.o).mono WB.o.size)⟩
def four{α:Type}:∀ {cs:List α},cs.length=4→∃a b c d,cs=[a,b,c,d]
 | [a,b,c,d],_=>⟨a,b,c,d,rfl⟩
def p9{H:Type}{enc:TypeId×Value→H}{W:World}{base:Nat}{sp:Nat→Bool}{held:Bool}{v:Value}{d:DataW H}{ps:List MemPlace}(h:DataW.Trod enc prog W base sp held 59 v d ps):∃x:Zt,v = .agg (Z5 x).toArray:=by
 obtain⟨fuel,h⟩:=h;obtain⟨xs,n,_,pP,hlen,hxl,hf⟩:=DataW.trod_struct underlying59 h;have hC:prog.cellsOf 59=4:=by kernel_rfl
 have k1:prog.cellsOf 3=1:=by kernel_rfl
 rw[hC]at hlen;obtain⟨cs,Tx⟩:∃cs,v.cells.toList=cs:=⟨_,rfl⟩;rw[Tx]at hlen hf;obtain⟨c0,c1,c2,c3,rfl⟩:=four hlen
 ·skip
  have hi:∀j c,j<4→([c0,c1,c2,c3].drop j).take 1=[c]→(∀y,xs[j]?=some y→DataW.trod enc prog W base sp held n 3 (([c0,c1,c2,c3].drop j).take (prog.cellsOf 3))=some y)→∃z,c = .int .i64 z:=fun j c hj he hy=>by
   have hh:=hy _ (U' (by rw[hxl];exact hj));rw[k1,he]at hh;obtain⟨z,g,_⟩:=DataW.trod_int underlying3 hh;exact⟨z,by injection g⟩
  obtain⟨z0,rfl⟩:=hi 0 c0 Zo rfl (fun y e=>(hf 0 _ rfl).trans e);obtain⟨z1,rfl⟩:=hi 1 c1 Zo rfl (fun y e=>(hf 1 _ rfl).trans e);obtain⟨z2,rfl⟩:=hi 2 c2 Zo rfl (fun y e=>(hf 2 _ rfl).trans e);obtain⟨z3,rfl⟩:=hi 3 c3 Zo rfl (fun y e=>(hf 3 _ rfl).trans e);refine⟨⟨z0,z1,z2,z3⟩,?_⟩;cases v with
  | agg a=>
   have ha:a.toList=(Qb z0 z1 z2 z3):=Tx;show Value.agg a = .agg [.int .i64 z0,.int .i64 z1,.int .i64 z2,.int .i64 z3].toArray;rw[←ha]
  | _=>exact absurd (congrArg List.length Tx) (by simp[Value.cells])
end
