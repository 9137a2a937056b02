/- Part of a proof. -/
import Derived.Test.YtpdjhlcbcomdkaaGreatDoorF15
set_option linter.unusedVariables false
set_option linter.unusedSimpArgs false
set_option maxRecDepth 100000
set_option maxHeartbeats 16000000
open Go Go.Q Go.Qr
namespace Go.Proofs.Rm
open Go.RowKit Go.Proofs.Heap Go.Proofs.Mem
theorem Jq (b:Nat) (T:ZU) (x:WJ) (w:World) (hR:ZT w b T) (hs:0≤T.Zq x.source) (hw:0≤x.want∧x.want<(T.Xb x.source).ss.length) :
  Calls Tryz.prog 99 (Qf (some ⟨b,0,none⟩) (Qg x.peer x.source x.want x.ZR)) w fun e w'=>e = .returned (WG (T.ask x))∧Below w w w':=by
 obtain ⟨k,W_,SL,-,-⟩:=Yh hs
 have SL:T.Zq x.source=k:=SL
 have CB:=Zh (fun (w1:World) (h:Below w w w1)=>W8 b T x.source w1 (hR.below h))
 rw [SL] at CB
 have hb:=hR.lt
 have HSD:Hid (T.Xb x.source=T.Yv.getD k Vm):=by show _=_;unfold ZU.Xb;rw [SL,Xf]
 have HA:Hid (T.ask x=⟨9,(T.Xb x.source).own,(T.Xb x.source).num,0,(T.Xb x.source).ss.getD x.want.toNat 0⟩):=rfl
 obtain ⟨j,hj⟩:=Rn hw.1
 obtain ⟨pv,sv,uv,YJ,X_⟩:=hR.Wh
 obtain ⟨P,Vd,Z7,MR⟩:=X_.Yv
 have W_:k<P.length:=by rw [←Vd,UM] at W_;exact W_
 have hlen:=Z7.len
 have c1:=cell_of YJ 1
 have HX:Hid (T.Yv.getD k Vm=P[k].1):=by show _=_;rw [←Vd,VC W_]
 have hr:=MR P[k] (Pw W_)
 obtain ⟨pa,pc,rfl,-,-⟩:=id Z7
 obtain ⟨g,off,e1,hc⟩:=U3 Z7 Zo
 subst e1
 obtain ⟨d0,d1,d2,d3⟩:=hc k P[k] (VQ W_)
 rw [hj,HSD.o,HX.o] at hw
 have Oh:j<P[k].1.ss.length:=by omega
 obtain ⟨g2,BU,cap2,Kg,hlc,xH,rY,YX⟩:=RQ hr Zo
 have hx:=YX j Oh
 have hl2:=hr.len
 rw [Kg] at d2
 have HT:Hid (T.ask x=⟨9,P[k].1.own,P[k].1.num,0,P[k].1.ss.getD j 0⟩):=by show _=_;rw [HA.o,HSD.o,HX.o,hj];rfl
 have hg:g<w.heap.size:=by
  rcases Nat.lt_or_ge g w.heap.size with h|h
  ·exact h
  ·simp [World.cell?,Gt h] at d0
 clear hR hs YX hc hr MR YJ X_ Vd Z7 HSD HX SL HA hw
 generalize T.ask x=TA at *
 obtain ⟨x0,x1,x2,x3⟩:=x
 dsimp only at *
 subst hj
 generalize P[k].1.ss.getD j 0=xx at *
 generalize P[k].1.ss.length=xl at *
 generalize P[k].1.own=xo at *
 generalize P[k].1.num=xn at *
 generalize P[k].1.ZE=xm at *
 generalize P[k].2=xv at *
 generalize P.length=N at *
 have ZC:Hid (∀ w',Below (w.heap.size+2) ((w.alloc (.cells (Qg x0 x1 j x3) 105)).alloc (.cells (Qi 0 0 0 0 0) 158)) w' →
   w'.cell? ⟨b,1,none⟩=some (.slice (some ⟨g,off,none⟩) N pc)∧w'.cell? ⟨w,1,none⟩=some (.int .i64 x1)∧w'.cell? ⟨g,off+k*4,none⟩=some (.int .i64 xn)∧w'.cell? ⟨g,off+k*4+1,none⟩=some (.int .i64 xo)∧w'.cell? ⟨g,off+k*4+2,none⟩=some (.slice (some ⟨g2,BU,none⟩) xl cap2)∧w'.cell? ⟨g,off+k*4+3,none⟩=some (.bool xm)∧Below (w.heap.size+2) ((w.alloc (.cells (Qg x0 x1 j x3) 105)).alloc (.cells (Qi 0 0 0 0 0) 158)) w'):=fun w' h=>by
  have h1:Below w w w':=(((YG _ _).alloc (ZB _) _).alloc Zi _).trans (h.mono Zo)
  exact ⟨(h1.cell (p:=⟨b,1,none⟩) hb).trans c1,(h.cell (p:=⟨w,1,none⟩) UL).trans (cell_of (Wm w _ _).1 1),(h1.cell (p:=⟨g,off+k*4,none⟩) hg).trans d0,(h1.cell (p:=⟨g,off+k*4+1,none⟩) hg).trans d1,(h1.cell (p:=⟨g,off+k*4+2,none⟩) hg).trans d2,(h1.cell (p:=⟨g,off+k*4+3,none⟩) hg).trans d3,h⟩
 have KW:Hid (∀ w',Below (w.heap.size+2) ((w.alloc (.cells (Qg x0 x1 j x3) 105)).alloc (.cells (Qi 0 0 0 0 0) 158)) w'→Below w w w'):=fun w' h=>(((YG _ _).alloc (ZB _) _).alloc Zi _).trans (h.mono Zo)
 have Ll:Hid (∀ w',Below (w.heap.size+2) ((w.alloc (.cells (Qg x0 x1 j x3) 105)).alloc (.cells (Qi 0 0 0 0 0) 158)) w'→w'.cell? ⟨g2,BU+j,none⟩=some (.int .u32 xx)∧w'.cell? ⟨w,2,none⟩=some (.int .i64 j)∧(w'.cell? ⟨w.heap.size+1,0,none⟩=some (.int .i64 0)∧w'.cell? ⟨w.heap.size+1,1,none⟩=some (.int .i64 0)∧w'.cell? ⟨w.heap.size+1,2,none⟩=some (.int .i64 0)∧w'.cell? ⟨w.heap.size+1,3,none⟩=some (.int .i64 0)∧w'.cell? ⟨w.heap.size+1,4,none⟩=some (.int .u32 0)) ∧
   (∀ o,w'.frozen? ⟨w.heap.size+1,o,none⟩=false)):=fun w' h=>by
  have h1:Below w w w':=KW.o _ h
  have hB:=fun o=>(h.cell (p:=⟨w.heap.size+1,o,none⟩) UL).trans (cell_of (Wm w _ _).2 o)
  refine ⟨(h1.cell (p:=⟨g2,BU+j,none⟩) rY).trans hx,(h.cell (p:=⟨w,2,none⟩) UL).trans (cell_of (Wm w _ _).1 2),⟨hB 0,hB 1,hB 2,hB 3,hB 4⟩,fun o=>(h.frozen (p:=⟨w.heap.size+1,o,none⟩) UL).trans ?_⟩
  simp only [World.frozen?,(Wm w _ _).2]
  simp
 have K0:Below (w.heap.size+2) ((w.alloc (.cells (Qg x0 x1 j x3) 105)).alloc (.cells (Qi 0 0 0 0 0) 158)) ((w.alloc (.cells (Qg x0 x1 j x3) 105)).alloc (.cells (Qi 0 0 0 0 0) 158)):=YG _ _
 go_enter Tryz.func99,Tryz.ntmps99
 go_wp2_with fail
 go_region_held3 (fun w'=>w'.cell? ⟨b,1,none⟩=some (.slice (some ⟨g,off,none⟩) N pc)∧w'.cell? ⟨w,1,none⟩=some (.int .i64 x1)∧w'.cell? ⟨g,off+k*4,none⟩=some (.int .i64 xn)∧w'.cell? ⟨g,off+k*4+1,none⟩=some (.int .i64 xo)∧w'.cell? ⟨g,off+k*4+2,none⟩=some (.slice (some ⟨g2,BU,none⟩) xl cap2)∧w'.cell? ⟨g,off+k*4+3,none⟩=some (.bool xm)∧Below (w.heap.size+2) ((w.alloc (.cells (Qg x0 x1 j x3) 105)).alloc (.cells (Qi 0 0 0 0 0) 158)) w')
  (first|(exact ZC.o _ Xo)|(exact ZC.o _ (Below.drew Xo))|(exact ZC.o _ (Heap.Below.alloc' Xo (le2 _ _ _) _))|(exact ZC.o _ (Heap.Below.alloc' (Below.drew Xo) (le2 _ _ _) _))|(exact ZC.o _ (Below.setCell (Below.setCell (Below.setCell (Below.setCell Xo Zi _) Zi _) Zi _) Zi _))|(exact ZC.o _ (Below.setCell (Below.setCell (Below.setCell (Below.setCell (Below.drew Xo) Zi _) Zi _) Zi _) Zi _))|go_keep)
  (first|(go_at_call 49;go_split_ands;(with_reducible refine Calls.mono (CB.o _ (KW.o _ Xo)) ?_);rintro e w2 ⟨rfl,Y0⟩;have YF:=Heap.Below.call Xo (le2 _ _ _) Y0;obtain ⟨MQ,KP⟩:=TD Y0;have SG:=Y0.size)|fail)
 all_goals
  clear K0
  obtain ⟨-,-,-,-,-,-,OP⟩:= ‹_∧_∧_∧_∧_∧_∧Below (w.heap.size+2) _ _›
  obtain ⟨y1,y2,⟨y3,y4,y5,y6,y7⟩,Xm⟩:=Ll.o _ OP
  have z0:=Xm 0
  have z1:=Xm 1
  have z2:=Xm 2
  have z3:=Xm 3
  have z4:=Xm 4
  have fS:=Zh OP
  have jm:(0:Int)≤(j:Int):=yF j
  have hj1:(j:Int)<(xl:Int):=Gs.2 Oh
  clear OP Xm
  go_wp2_with fail
  go_region
  go_wp2
  refine VR (v:=WG ⟨9,xo,xn,0,xx⟩) (by simp [results,Tryz.results99,go_sem,WG,y3,y4,y5,y6,y7]) rfl ⟨by rw [HT.o],?_⟩
  exact ((((((KW.o _ fS.o).setCell Zi _).setCell Zi _).setCell Zi _).setCell Zi _).setCell Zi _).drew
theorem O9 {α:Type} {p:α→Bool} {l:List α}:0≤findAt p l↔∃ x∈l,p x=true:=by
 constructor
 ·intro h
  obtain ⟨k,hk,-,hp,-⟩:=Yh h
  exact ⟨l[k],Pw hk,hp⟩
 ·rintro ⟨x,hx,hp⟩
  unfold findAt
  cases hf:l.findIdx? p with
  | none=>
   rw [List.findIdx?_eq_none_iff] at hf
   have:=hf x hx
   rw [hp] at this;cases this
  | some i=>exact yF i
theorem JQ {α:Type} {l:List α} {k:Nat} {x:α} (hx:x∈l) (h:∀ hk:k<l.length,l[k]≠x):x∈l.eraseIdx k:=by
 obtain ⟨i,hi,rfl⟩:=List.getElem_of_mem hx
 rw [List.mem_eraseIdx_iff_getElem]
 refine ⟨i,hi,?_,rfl⟩
 intro e
 subst e
 exact h hi rfl
theorem F_ {T:ZU} {p n:Int}:0≤T.Zx p n↔∃ x∈T.Z8,x.peer=p∧x.source=n:=by
 unfold ZU.Zx
 rw [O9]
 simp
theorem LB {T:ZU} {p n q m:Int} (Xh:¬(q=p∧m=n)) (h0:0≤T.Zx p n) (h:0≤T.Zx q m):0≤(T.Xk p n).Zx q m:=by
 obtain ⟨x,hx,hxq,hxm⟩:=F_.1 h
 obtain ⟨k,hk,SL,hp,-⟩:=Yh h0
 rw [F_]
 refine ⟨x,?_,hxq,hxm⟩
 unfold ZU.Xk
 refine JQ hx fun Ay e=>?_
 have SL:T.Zx p n=k:=SL
 have:T.Z8[k]=x:=by rw [←e];congr 1;rw [SL,Xf]
 rw [this] at hp
 simp at hp
 exact Xh ⟨Zo,Zo⟩
theorem Hu (n:Int):∀ (l:List Nat) (p:Nat) (T:ZU),ZU.XY n (l++[p]) T=((ZU.XY n l T).1++[⟨3,p,n,0,0⟩,⟨2,p,n,0,0⟩],(ZU.XY n l T).2.Xk p n)
 | [],p,T=>rfl
 | q :: l,p,T=>by
  show ZU.XY n (q :: (l++[p])) T=_
  unfold ZU.XY
  rw [Hu n l p]
  rfl
theorem U1 (n:Int):∀ (l:List Nat) (T:ZU),(ZU.XY n l T).2.Yv=T.Yv∧(ZU.XY n l T).2.ZK=T.ZK∧(ZU.XY n l T).2.Z8.length≤T.Z8.length∧(ZU.XY n l T).1.length=2*l.length
 | [],T=>⟨rfl,rfl,ZB _,rfl⟩
 | q :: l,T=>by
  obtain ⟨h1,h2,h3,h4⟩:=U1 n l (T.Xk q n)
  unfold ZU.XY
  refine ⟨h1,h2,Rh h3 (by unfold ZU.Xk;dsimp only;exact (List.eraseIdx_sublist _ _).length_le),?_⟩
  dsimp only
  rw [List.length_cons,List.length_cons,h4,List.length_cons];omega
theorem Fa (n:Int):∀ (l:List Nat) (T:ZU) (q:Nat),l.Nodup→(∀ p∈l,0≤T.Zx (p:Int) n)→q ∉ l→0≤T.Zx (q:Int) n→0≤(ZU.XY n l T).2.Zx (q:Int) n
 | [],T,q,_,_,_,h=>h
 | p :: l,T,q,hd,hl,hq,h=>by
  unfold ZU.XY
  dsimp only
  rw [List.nodup_cons] at hd
  have hp:=hl p (List.mem_cons_self ..)
  refine Fa n l (T.Xk p n) q hd.2 (fun r hr=>LB (fun e=>hd.1 ?_) hp (hl r (List.mem_cons_of_mem _ hr))) (fun e=>hq (List.mem_cons_of_mem _ e)) (LB (fun e=>hq ?_) hp h)
  ·have:r=p:=by omega
   rw [←this];exact hr
  ·have:q=p:=by omega
   rw [this];exact List.mem_cons_self ..
theorem NQ {T:ZU} {n:Int} {p:Nat}:p∈T.ZH n↔1≤p∧p≤8∧0≤T.Zx (p:Int) n:=by
 unfold ZU.ZH ZU.V7
 rw [lq,yG]
 constructor
 ·rintro ⟨⟨q,hq,rfl⟩,h2⟩
  rw [List.mem_range] at hq
  exact ⟨Zo,Zo,of_decide_eq_true h2⟩
 ·rintro ⟨h1,h2,h3⟩
  exact ⟨⟨p-1,by rw [List.mem_range];omega,Zo⟩,Ws h3⟩
theorem Kc (T:ZU) (n:Int):(T.ZH n).Nodup:=by
 unfold ZU.ZH ZU.V7
 refine List.Pairwise.filter _ ?_
 rw [List.pairwise_map]
 exact List.Pairwise.imp (fun h e=>h Zo) List.nodup_range
theorem Small.Xk {T:ZU} (h:T.Small) (p n:Int):(T.Xk p n).Small:=
 ⟨h.ZK,h.Yv,Rh (List.eraseIdx_sublist _ _).length_le h.Z8⟩
theorem Small.XY {T:ZU} (h:T.Small) (n:Int) (l:List Nat):(ZU.XY n l T).2.Small:=by
 obtain ⟨h1,h2,h3,-⟩:=U1 n l T
 exact ⟨by rw [h2];exact h.ZK,by rw [h1];exact h.Yv,Rh h3 h.Z8⟩
theorem Small.UT {T:ZU} (h:T.Small) (n:Int):(T.UT n).Small:=⟨h.ZK,Rh (List.eraseIdx_sublist _ _).length_le h.Yv,h.Z8⟩
theorem Small.YD {T:ZU} (h:T.Small) (n:Int):(T.YD n).2.Small:=Small.UT (Small.XY h n _) n
theorem Nf (T:ZU) (n:Int):(T.YD n).1.length≤16:=by
 have h1:=(U1 n (T.ZH n) T).2.2.2
 have h2:=U8 T n 8
 have h2:(T.ZH n).length≤8:=h2
 show (ZU.XY n (T.ZH n) T).1.length≤16
 omega
theorem S8 (p:Int) (T:ZU):∀ k,(ZU.ZP p T k).2.Yv=T.Yv∧(ZU.ZP p T k).2.ZK=T.ZK∧(T.Small→(ZU.ZP p T k).2.Small)∧(ZU.ZP p T k).1.length≤k
 | 0=>⟨rfl,rfl,id,ZB _⟩
 | k+1=>by
  obtain ⟨h1,h2,h3,h4⟩:=S8 p T k
  unfold ZU.ZP
  dsimp only
  split
  ·exact ⟨h1,h2,fun h=>Small.Xk (h3 h) _ _,by dsimp only;rw [SP];simp;omega⟩
  ·exact ⟨h1,h2,h3,Zo⟩
theorem S9 (p:Int) (T:ZU):∀ k,(ZU.ZM p T k).2.ZK=T.ZK∧(T.Small→(ZU.ZM p T k).2.Small)∧(ZU.ZM p T k).1.length≤k*16
 | 0=>⟨rfl,id,ZB _⟩
 | k+1=>by
  obtain ⟨h2,h3,h4⟩:=S9 p T k
  unfold ZU.ZM
  dsimp only
  split
  ·refine ⟨?_,fun h=>Small.YD (h3 h) _,?_⟩
   ·dsimp only
    show (ZU.XY _ _ _).2.ZK=_
    rw [(U1 _ _ _).2.1];exact h2
   ·dsimp only
    rw [SP]
    have:=Nf (ZU.ZM p T k).2 ((k:Int)+1)
    omega
  ·exact ⟨h2,h3,Zo⟩
theorem Me (p:Int) (T:ZU) (k:Nat):ZU.ZP p T (k+1)=if 0≤(ZU.ZP p T k).2.Zx p ((k:Int)+1) then ((ZU.ZP p T k).1++[⟨2,p,(k:Int)+1,0,0⟩],(ZU.ZP p T k).2.Xk p ((k:Int)+1)) else ZU.ZP p T k:=rfl
theorem Mf (p:Int) (T:ZU) (k:Nat):ZU.ZM p T (k+1)=if (ZU.ZM p T k).2.owner ((k:Int)+1)=p then ((ZU.ZM p T k).1++((ZU.ZM p T k).2.YD ((k:Int)+1)).1,((ZU.ZM p T k).2.YD ((k:Int)+1)).2) else ZU.ZM p T k:=rfl
theorem K6 {T:ZU} {n:Int}:0≤T.Zq n↔∃ x∈T.Yv,x.num=n:=by
 unfold ZU.Zq
 rw [O9]
 simp
theorem IA {T:ZU} {n:Int}:0≤T.Yx n↔∃ x∈T.ZK,x.num=n:=by
 unfold ZU.Yx
 rw [O9]
 simp
theorem vW {T:ZU} {n p:Int} (hp:p≠0) (h:T.owner n=p):0≤T.Zq n:=by
 unfold ZU.owner at h
 split at h
 ·exact absurd h.symm hp
 ·omega
end Go.Proofs.Rm
namespace Go.Proofs.Rm
open Go.RowKit Go.Proofs.Heap Go.Proofs.Mem
theorem ZT.grown {w w':World} {b:Nat} {T:ZU} (h:ZT w b T) {base:Nat} {size:Nat} {vo:Value} {m:Nat} {ys:List Value} (ho:w.ownsRow base 158 size vo m ys) (hg:w.grownBy w' vo.ownBlock) (hb:b<base):ZT w' b T:=by
 have Rj:=h.lt
 obtain ⟨pv,sv,uv,hc,h1,⟨ms,h2,h3,h4⟩,h5⟩:=h.Wh
 exact ⟨pv,sv,uv,by rw [hg.block b Rj (fun e=>by have:=Yw ho b e.symm;omega)];exact hc,Row.grown h1 ho hg Zd,⟨ms,h2,Row.grown h3 ho hg Zd,fun m hm=>Row.grown (h4 m hm) ho hg Zd⟩,Row.grown h5 ho hg Zd⟩
theorem Tx (l:List (XK × Value)):(l.flatMap ZJ).length=l.length*4:=XZ ZJ 4 (fun _=>rfl) l
theorem QE {l:List (XK × Value)} (h:∀ m∈l,∃ a n c,m.2 = .slice a n c):∀ u∈l.flatMap ZJ,u.oneCell'=true:=by
 intro u hu
 obtain ⟨x,hx,hu⟩:=List.mem_flatMap.1 hu
 obtain ⟨a,n,c,e⟩:=h x hx
 obtain ⟨x,v⟩:=x
 dsimp only at e
 subst e
 exact QD x a n c u hu
theorem LG {l:List Nat} {k:Nat} (h:k<l.length):l.getD k 0∈l:=by
 rw [Sq,VQ h];exact Pw h
theorem IX {l:List Nat} {k:Nat} (h:k<l.length):l.take (k+1)=l.take k++[l.getD k 0]:=by
 rw [List.take_succ_eq_append_getElem h,Sq,VQ h];rfl
theorem zw {l:List Nat} (h:l.Nodup) {k:Nat} (hk:k<l.length):l.getD k 0 ∉ l.take k:=by
 rw [Sq,VQ hk]
 intro hm
 obtain ⟨i,hi,e⟩:=List.getElem_of_mem hm
 rw [TU] at hi
 rw [List.getElem_take] at e
 exact (List.pairwise_iff_getElem.1 h) i k Zo hk Zo e
theorem QO (b:Nat) (T:ZU) (n:Int) (w:World) (hR:ZT w b T) (VV:T.Small) (hs:0≤T.Zq n) :
  Calls Tryz.prog 98 (Ql (some ⟨b,0,none⟩) n) w fun e w'=>(∃ v,e = .returned v∧YM w' v (T.YD n).1)∧ZT w' b (T.YD n).2∧Fr w (· = b) w w':=by
 have hb:=hR.lt
 have CH:=Zh (NA b T n w hR)
 have HLL:(T.ZH n).length≤8:=U8 T n 8
 have HND:=Zh (Kc T n)
 have uF:Hid (∀ p∈T.ZH n,0≤T.Zx (p:Int) n):=fun p hp=>(NQ.1 hp).2.2
 have HES:Hid (T.YD n=((ZU.XY n (T.ZH n) T).1,(ZU.XY n (T.ZH n) T).2.UT n)):=rfl
 have HR:=Zh hR
 have M9:=Zh VV
 have HSA:=Zh hs
 clear hR VV hs
 generalize T.ZH n=L at *
 go_enter Tryz.func98,Tryz.ntmps98
 go_wp2_with fail
 (with_reducible refine CH.o.mono ?_)
 rintro e w1 ⟨⟨lv,rfl,Z7⟩,Zj⟩
 have WS:=Zh Z7
 have KC:Hid (Fr w (· = b) w w1):=Fr.Z9 _ Zj
 have MC:=Zh (HR.o.below Zj)
 obtain ⟨la,MZ,rfl,-,-⟩:=id Z7
 clear Zj Z7
 go_wp2_with fail
 go_loopw [5,13] (fun v i w'=>∃ k:Nat,k≤L.length∧i = .int .i64 k∧Fr w (· = b) w w'∧Row w' 3 (.slice la L.length MZ) L.length (ints L)∧ZT w' b (ZU.XY n (L.take k) T).2∧w'.ownsRow w 158 5 v (ZU.XY n (L.take k) T).1.length ((ZU.XY n (L.take k) T).1.flatMap Z_)) (fun _ i _=>L.length-(intOf i).toNat)
 case atStart=>exact ⟨0,Zo,rfl,KC.o,WS.o,MC.o,Us _ _ _ _⟩
 case round=>
  obtain ⟨k,hk,rfl,Xm,Z7,VE,YO⟩:=hrel
  clear KC MC WS
  have U5:=Zh Xm
  have WS:=Zh Z7
  have VW:=Zh VE
  have Yu:=Zh YO
  have Vr:=Xm.size
  clear Xm YO VE
  by_cases W_:k<L.length
  ·obtain ⟨g,off,cap,e1,hg,YX⟩:=U9 Z7 Zo
   cases e1
   have hc:=YX k W_
   have EW:=(U1 n (L.take k) T).2.2.2
   rw [TU] at EW
   have HS:Hid (ZU.XY n (L.take (k+1)) T=((ZU.XY n (L.take k) T).1++[⟨3,(L.getD k 0:Nat),n,0,0⟩,⟨2,(L.getD k 0:Nat),n,0,0⟩],(ZU.XY n (L.take k) T).2.Xk (L.getD k 0:Nat) n)):=by
    show _=_;rw [IX W_,Hu]
   have ce:=MH b (ZU.XY n (L.take k) T).2 (L.getD k 0:Nat) n wr VW.o (Small.XY M9.o n _) (Fa n _ T _ (List.Nodup.sublist (List.take_sublist _ _) HND.o) (fun p hp=>uF.o p (List.mem_of_mem_take hp)) (zw HND.o W_) (uF.o _ (LG W_)))
   unfold WG at ce
   dsimp only at ce
   have CE:=Zh ce
   clear ce YX Z7
   generalize L.getD k 0=p at *
   generalize ZU.XY n (L.take k) T=G at *
   go_wp2_with (first|(go_at_call 100;(with_reducible refine CE.o.mono ?_);rintro e w2 ⟨rfl,PW,SX⟩;have AW:=Zh PW;have UE:=Zh SX;have vJ:=SX.size;clear PW SX)|(at_builtin;refine Za rfl (.tmp 17) (.tmp 25) 98 rfl w.heap.size XU _ G.1.length (G.1.flatMap Z_) rfl ?a1 _ 2 ([⟨3,p,n,0,0⟩,⟨2,p,n,0,0⟩].flatMap Z_) rfl ?a2 rfl ?a4 ?a5 ?a6 ?a7 (fun v' w3 HO HG=>?_)))
   case a1=>exact (Yj Yu.o UE.o (fun k hk=>by omega)).alloc _
   case a2=>exact YL _ _ 2 _ ([⟨3,p,n,0,0⟩,⟨2,p,n,0,0⟩].flatMap Z_) Zd rfl
   case a4=>exact Yk _
   case a5=>omega
   case a6=>omega
   case a7=>simp;omega
   go_roundw
   case rel=>
    have SZ:=(Yj Yu.o UE.o (fun k hk=>by omega)).alloc (.cells ([⟨3,p,n,0,0⟩,⟨2,p,n,0,0⟩].flatMap Z_).toArray 158)
    have XS:=Z' w2 (.cells ([⟨3,p,n,0,0⟩,⟨2,p,n,0,0⟩].flatMap Z_).toArray 158)
    refine ⟨k+1,Zo,Zn,?_,?_,?_,?_⟩
    ·exact qO
    ·exact Row.grown ((WS.o.fr UE.o (ZB _) (VW.o.G' Zd)).below XS) SZ HG.o Zd
    ·rw [HS.o]
     exact ZT.grown (AW.o.below XS) SZ HG.o hb
    ·rw [HS.o]
     dsimp only
     rw [SP,QL]
     exact HO.o
   case measure=>simp [intOf];omega
  ·have hT:L.take k=L:=I8 Zo
   rw [hT] at Yu VW
   have GF:=U1 n L T
   have qy:=Small.XY M9.o n L
   have oN:0≤(ZU.XY n L T).2.Zq n:=by rw [K6,GF.1,←K6];exact HSA.o
   clear hT Z7 GF
   generalize ZU.XY n L T=G at *
   obtain ⟨m,hm,PU,-,-⟩:=Yh oN
   have PU:G.2.Zq n=m:=PU
   have cb:=W8 b G.2 n wr VW.o
   rw [PU] at cb
   have CB:=Zh cb
   have HE:Hid (G.2.UT n={G.2 with Yv:=G.2.Yv.take m++G.2.Yv.drop (m+1)}):=by show _=_;unfold ZU.UT;rw [PU,Xf,List.eraseIdx_eq_take_drop_succ]
   have U4:=qy.Yv
   unfold small at U4
   clear cb PU oN qy
   go_wp2_with fail
   (with_reducible refine CB.o.mono ?_)
   rintro e V ⟨rfl,OE⟩
   have Nz:=Zh (VW.o.below OE)
   have HFV:Hid (Fr w (· = b) w V):=U5.o.trans ((Fr.Z9 _ OE).mono Vr (fun _ _ h=>h))
   have HOV:=Zh (ZF Yu.o OE)
   have vK:w.heap.size≤V.heap.size:=Rh Vr OE.size
   clear OE CB
   obtain ⟨pv,sv,uv,YJ,X_⟩:=Nz.o.Wh
   obtain ⟨P,Vd,UR,MR⟩:=X_.Yv
   have My:m<P.length:=by rw [←Vd,UM] at hm;exact hm
   have hPl:P.length≤100000:=by rw [←Vd,UM] at U4;exact U4
   have mX:Hid (∀ x∈P,∃ a n c,x.2 = .slice a n c):=fun x hx=>by obtain ⟨a,c,h,-,-⟩:=MR x hx;exact ⟨a,_,c,h⟩
   obtain ⟨a,cap,rfl,PV,xH,-,-⟩:=id UR
   obtain ⟨a1,dQ,Ce,-⟩:=RM VY a P.length cap m Zo
   obtain ⟨a2,tK,Cf,-⟩:=Tt VY a P.length cap (m+1) Zo PV
   rw [show (((m+1:Nat):Int))=(m:Int)+1 by omega] at tK
   have AY:Hid (∀ w',Below V V w'→Row w' 108 (.slice a1 m cap) m ((P.take m).flatMap ZJ)):=fun w' h=>by
    have:=Ce w' _ Zo (Tx _) (UR.below h)
    rwa [KN ZJ 4 (fun _=>rfl)] at this
   have EZ:Hid (∀ w',Below V V w'→Row w' 108 (.slice a2 (P.length-(m+1)) (cap-(m+1))) (P.length-(m+1)) ((P.drop (m+1)).flatMap ZJ)):=fun w' h=>by
    have:=Cf w' _ (Tx _) (UR.below h)
    rwa [KM ZJ 4 (fun _=>rfl)] at this
   have Lb:Hid (((P.take m).flatMap ZJ).length=m*4):=by show _=_;rw [Tx,TU,Nat.min_eq_left Zo]
   have Dc:Hid (((P.drop (m+1)).flatMap ZJ).length=(P.length-(m+1))*4):=by show _=_;rw [Tx,RU]
   have kv:Hid ((P.take m++P.drop (m+1)).length=m+(P.length-(m+1))):=by show _=_;rw [SP,TU,RU,Nat.min_eq_left Zo]
   have Dy:Hid (∀ u∈(P.take m).flatMap ZJ,u.oneCell'=true):=QE fun x hx=>mX.o x (List.mem_of_mem_take hx)
   have Mv:Hid (∀ u∈(P.drop (m+1)).flatMap ZJ,u.oneCell'=true):=QE fun x hx=>mX.o x (List.mem_of_mem_drop hx)
   have HC:Hid (∀ w',Below V V w'→w'.cell? ⟨b,1,none⟩=some (.slice a P.length cap)):=fun w' h=>(h.cell (p:=⟨b,1,none⟩) UL).trans (cell_of YJ 1)
   have KP:=Nz.o.YS 1
   have HFZ:Hid (∀ w',Below V V w'→w'.frozen? ⟨b,1,none⟩=false):=fun w' h=>(h.frozen (p:=⟨b,1,none⟩) UL).trans KP
   have I6:Hid ((P.take m++P.drop (m+1)).map Prod.fst=G.2.Yv.take m++G.2.Yv.drop (m+1)):=by show _=_;rw [ND,List.map_take,List.map_drop,Vd]
   have gq:Hid (∀ w',Below V V w'→∀ x∈P.take m++P.drop (m+1),Row w' 66 x.2 x.1.ss.length (Zb x.1.ss)):=fun w' h x hx=>by
    refine (MR x ?_).below h
    rcases De.1 hx with hx|hx
    ·exact List.mem_of_mem_take hx
    ·exact List.mem_of_mem_drop hx
   have Dk:m+1≤P.length:=My
   have dI:IntKind.i64.wrap ((m:Int)+1)=(m:Int)+1:=Ua _ Zo
   have GC:=HC.o V (YG _ _)
   have Ri:Below V V V:=YG _ _
   clear KP X_ YJ UR Ce Cf MR Vd My hm U4
   generalize P.length=N at *
   go_wp2_with fail
   go_region_law (first|(refine Zw Zr (.const (.slice none 0 0)) (.tmp 37) 48 Zr V.heap.size VY (.slice none 0 0) 0 [] Zr (Us _ _ _ _) (.slice a1 m cap) m ((P.take m).flatMap ZJ) Zr ?_ Lb.o Dy.o Zo Zo ?_ ?_;(exact AY.o _ E4);(exact Below.size E4);intro v1 w2 UK Pt;have YF:Below V V w2:=Below.grown E4 Pt.o (Below.size E4) (Yw (Us V _ 108 4));have c2:=HC.o _ YF)|(refine Zw Zr (.tmp 38) (.tmp 45) 48 Zr V.heap.size VY v1 (0+m) ([]++(P.take m).flatMap ZJ) Zr ?_ (.slice a2 (N-(m+1)) (cap-(m+1))) (N-(m+1)) ((P.drop (m+1)).flatMap ZJ) Zr ?_ Dc.o Mv.o Zo Zo ?_ ?_;(first|exact UK.o|exact XH UK.o);(exact EZ.o _ E4);(exact Below.size E4);intro v2 w3 QJ Li;have WX:Below V V w3:=Below.grown E4 Li.o (Below.size E4) (Yw UK.o);have c3:=HC.o _ WX;have f3:=HFZ.o _ WX;obtain ⟨va,vc,hv⟩:=Yz QJ.o;subst hv))
   all_goals
    go_wp2
    go_ret
    have Z7:=Row.ZV QJ.o
    rw [KF,←QL,OD] at Z7
    have GJ:ZT w3 b G.2:=Nz.o.below WX
    have Ni:m+(N-(m+1))=(P.take m++P.drop (m+1)).length:=by rw [kv.o]
    rw [Ni] at Z7
    have Bx:=GJ.JD _ I6.o Z7 (gq.o _ WX)
    rw [←Ni] at Bx
    refine ⟨⟨_,rfl,?_⟩,?_,?_⟩
    ·rw [HES.o]
     exact (((Row.ZV HOV.o).below WX).fr ((Fr.refl w3.heap.size (· = b) w3).setAt _ _) (ZB _) (GJ.G' Zd))
    ·rw [HES.o]
     dsimp only
     rw [HE.o]
     exact Bx
    ·exact (HFV.o.trans ((Fr.Z9 _ WX).mono vK (fun _ _ h=>h))).setAt _ _
theorem P9 (l:List WU):(l.flatMap Zf).length=l.length*2:=XZ Zf 2 (fun _=>rfl) l
theorem P_ (l:List WU):∀ u∈l.flatMap Zf,u.oneCell'=true:=by
 intro u hu
 obtain ⟨x,_,hx⟩:=List.mem_flatMap.1 hu
 exact P8 x u hx
theorem zM (b:Nat) (T:ZU) (p:Int) (w:World) (hR:ZT w b T) (VV:T.Small) (hp:1≤p) (hs:0≤T.Yx p) :
  Calls Tryz.prog 97 (Ql (some ⟨b,0,none⟩) p) w fun e w'=>(∃ v,e = .returned v∧YM w' v (T.leave p).1)∧ZT w' b (T.leave p).2∧Fr w (· = b) w w':=by
 have hb:=hR.lt
 have eu:Hid (T.leave p=((ZU.ZP p T 8).1++(ZU.ZM p (ZU.ZP p T 8).2 8).1,(ZU.ZM p (ZU.ZP p T 8).2 8).2.Po p)):=rfl
 have HR:=Zh hR
 have M9:=Zh VV
 have JW:=Zh hs
 clear hR VV hs
 go_enter Tryz.func97,Tryz.ntmps97
 go_wp2
 go_loopw [5,6] (fun v i w'=>∃ k:Nat,k≤8∧i = .int .i64 ((k:Int)+1)∧Fr w (· = b) w w'∧ZT w' b (ZU.ZP p T k).2∧w'.ownsRow w 158 5 v (ZU.ZP p T k).1.length ((ZU.ZP p T k).1.flatMap Z_)) (fun _ i _=>9-(intOf i).toNat)
 case atStart=>exact ⟨0,Zo,rfl,Fr.refl _ _ _,HR.o,Us _ _ _ _⟩
 case round=>
  obtain ⟨k,hk,rfl,Xm,VE,YO⟩:=hrel
  have U5:=Zh Xm
  have VW:=Zh VE
  have Yu:=Zh YO
  have Vr:=Xm.size
  clear Xm VE YO
  by_cases VD:k<8
  ·have HS:=Zh (Me p T k)
   have EW:=(S8 p T k).2.2.2
   have CA:=Zh (Xg b (ZU.ZP p T k).2 p ((k:Int)+1) wr VW.o)
   have hsm2:=(S8 p T k).2.2.1 M9.o
   by_cases h0:0≤(ZU.ZP p T k).2.Zx p ((k:Int)+1)
   ·have HF:Hid (ZU.ZP p T (k+1)=((ZU.ZP p T k).1++[⟨2,p,(k:Int)+1,0,0⟩],(ZU.ZP p T k).2.Xk p ((k:Int)+1))):=by show _=_;rw [HS.o,ZX h0]
    have CE:Hid (∀ w1,Below wr wr w1→Calls Tryz.prog 100 (Qs (some ⟨b,0,none⟩) p ((k:Int)+1)) w1 fun e w'=>e = .returned (.agg (Qi 2 p ((k:Int)+1) 0 0))∧ZT w' b ((ZU.ZP p T k).2.Xk p ((k:Int)+1))∧Fr w1 (· = b) w1 w'):=
     fun w1 h=>MH b (ZU.ZP p T k).2 p ((k:Int)+1) w1 (VW.o.below h) hsm2 h0
    generalize (ZU.ZP p T k).2.Zx p ((k:Int)+1)=q at *
    generalize ZU.ZP p T k=G at *
    go_wp2_with (first|(go_at_call 51;(with_reducible refine CA.o.mono ?_);rintro e w1 ⟨rfl,Zj⟩;have Wy:=Zh Zj;have SF:=Zj.size;clear Zj)|(go_at_call 100;(with_reducible refine (CE.o _ Wy.o).mono ?_);rintro e w2 ⟨rfl,PW,SX⟩;have AW:=Zh PW;have UE:=Zh SX;have vJ:=SX.size;clear PW SX)|(at_builtin;refine Za rfl (.tmp 18) (.tmp 23) 98 rfl w.heap.size XU _ G.1.length (G.1.flatMap Z_) rfl ?a1 _ 1 ([⟨2,p,(k:Int)+1,0,0⟩].flatMap Z_) rfl ?a2 rfl ?a4 ?a5 ?a6 ?a7 (fun v' w3 HO HG=>?_)))
    case a1=>exact (Yj (ZF Yu.o Wy.o) UE.o (fun k hk=>by omega)).alloc _
    case a2=>exact YL _ _ 1 _ ([⟨2,p,(k:Int)+1,0,0⟩].flatMap Z_) Zd rfl
    case a4=>exact Yk _
    case a5=>omega
    case a6=>omega
    case a7=>simp;omega
    go_roundw
    case rel=>
     have SZ:=(Yj (ZF Yu.o Wy.o) UE.o (fun k hk=>by omega)).alloc (.cells ([⟨2,p,(k:Int)+1,0,0⟩].flatMap Z_).toArray 158)
     have XS:=Z' w2 (.cells ([⟨2,p,(k:Int)+1,0,0⟩].flatMap Z_).toArray 158)
     refine ⟨k+1,Zo,Zn,?_,?_,?_⟩
     ·have h2:=U5.o.trans ((Fr.Z9 (· = b) Wy.o).mono Zo (fun _ _ h=>h))
      have h3:=h2.trans (UE.o.mono Zo (fun _ _ h=>h))
      exact (h3.alloc Zo _).grown HG.o VB (Yw Yu.o)
     ·rw [HF.o]
      exact ZT.grown (AW.o.below XS) SZ HG.o hb
     ·rw [HF.o]
      dsimp only
      rw [SP,QL]
      exact HO.o
    case measure=>simp [intOf];omega
   ·have HF:Hid (ZU.ZP p T (k+1)=ZU.ZP p T k):=by show _=_;rw [HS.o,Z6 h0]
    have h0':decide (0≤(ZU.ZP p T k).2.Zx p ((k:Int)+1))=false:=WN h0
    generalize (ZU.ZP p T k).2.Zx p ((k:Int)+1)=q at *
    generalize ZU.ZP p T k=G at *
    go_wp2_with (go_at_call 51;(with_reducible refine CA.o.mono ?_);rintro e w1 ⟨rfl,Zj⟩)
    go_roundw
    case rel=>exact ⟨k+1,Zo,Zn,U5.o.trans ((Fr.Z9 (· = b) Zj).mono Vr (fun _ _ h=>h)),by rw [HF.o];exact VW.o.below Zj,by rw [HF.o];exact ZF Yu.o Zj⟩
    case measure=>simp [intOf];omega
  ·obtain rfl:k=8:=by omega
   have hlf:=S8 p T 8
   have EW:=hlf.2.2.2
   have qy:=Zh (hlf.2.2.1 M9.o)
   have HPE:=Zh hlf.2.1
   have Dc:Hid (∀ k,ZU.ZM p (ZU.ZP p T 8).2 (k+1)=if (ZU.ZM p (ZU.ZP p T 8).2 k).2.owner ((k:Int)+1)=p then ((ZU.ZM p (ZU.ZP p T 8).2 k).1++((ZU.ZM p (ZU.ZP p T 8).2 k).2.YD ((k:Int)+1)).1,((ZU.ZM p (ZU.ZP p T 8).2 k).2.YD ((k:Int)+1)).2) else ZU.ZM p (ZU.ZP p T 8).2 k):=fun k=>Mf p _ k
   have HLF:Hid (∀ k,(ZU.ZM p (ZU.ZP p T 8).2 k).2.ZK=(ZU.ZP p T 8).2.ZK∧(ZU.ZM p (ZU.ZP p T 8).2 k).2.Small∧(ZU.ZM p (ZU.ZP p T 8).2 k).1.length≤k*16):=fun k=>⟨(S9 p _ k).1,(S9 p _ k).2.1 qy.o,(S9 p _ k).2.2⟩
   have yw:Hid (ZU.ZM p (ZU.ZP p T 8).2 0=([],(ZU.ZP p T 8).2)):=rfl
   clear hlf
   generalize ZU.ZP p T 8=X at *
   obtain ⟨wo,rfl⟩:∃ wo:World,wo=wr:=⟨_,rfl⟩
   go_wp2_with fail
   go_loopw [5,7] (fun v i w'=>∃ k:Nat,k≤8∧i = .int .i64 ((k:Int)+1)∧Fr w (· = b) w w'∧ZT w' b (ZU.ZM p X.2 k).2∧w'.ownsRow w 158 5 v (X.1++(ZU.ZM p X.2 k).1).length ((X.1++(ZU.ZM p X.2 k).1).flatMap Z_)) (fun _ i _=>9-(intOf i).toNat)
   case atStart=>exact ⟨0,Zo,rfl,U5.o,by rw [yw.o];exact VW.o,by rw [yw.o,Df];exact Yu.o⟩
   case round=>
    obtain ⟨k,hk,rfl,Xm,VE,YO⟩:=hrel
    clear U5 VW Yu yw Vr
    have U5:=Zh Xm
    have VW:=Zh VE
    have Yu:=Zh YO
    have Vr:=Xm.size
    clear Xm VE YO
    by_cases VD:k<8
    ·have HS:=Zh (Dc.o k)
     have HGL2:=(HLF.o k).2.2
     have HGN:=Nf (ZU.ZM p X.2 k).2 ((k:Int)+1)
     have CO:=Zh (RS b (ZU.ZM p X.2 k).2 ((k:Int)+1) wr VW.o)
     by_cases ho:(ZU.ZM p X.2 k).2.owner ((k:Int)+1)=p
     ·have HF:Hid (ZU.ZM p X.2 (k+1)=((ZU.ZM p X.2 k).1++((ZU.ZM p X.2 k).2.YD ((k:Int)+1)).1,((ZU.ZM p X.2 k).2.YD ((k:Int)+1)).2)):=by show _=_;rw [HS.o,ZX ho]
      have CG:Hid (∀ w1,Below wr wr w1→Calls Tryz.prog 98 (Ql (some ⟨b,0,none⟩) ((k:Int)+1)) w1 fun e w'=>(∃ v,e = .returned v∧YM w' v ((ZU.ZM p X.2 k).2.YD ((k:Int)+1)).1)∧ZT w' b ((ZU.ZM p X.2 k).2.YD ((k:Int)+1)).2∧Fr w1 (· = b) w1 w'):=
       fun w1 h=>QO b (ZU.ZM p X.2 k).2 ((k:Int)+1) w1 (VW.o.below h) (HLF.o k).2.1 (vW Zo ho)
      rw [ho] at CO
      clear ho
      generalize (ZU.ZM p X.2 k).2.YD ((k:Int)+1)=Y at *
      generalize ZU.ZM p X.2 k=G at *
      go_wp2_with (first|(go_at_call 75;(with_reducible refine CO.o.mono ?_);rintro e w1 ⟨rfl,Zj⟩;have Wy:=Zh Zj;have SF:=Zj.size;clear Zj)|(go_at_call 98;(with_reducible refine (CG.o _ Wy.o).mono ?_);rintro e w2 ⟨⟨tv,rfl,S0⟩,PW,SX⟩;have DD:=Zh S0;have AW:=Zh PW;have UE:=Zh SX;have vJ:=SX.size;clear PW SX S0)|(at_builtin;refine Za rfl (.tmp 34) (.tmp 37) 98 rfl w.heap.size XU _ (X.1++G.1).length ((X.1++G.1).flatMap Z_) rfl ?b1 _ Y.1.length (Y.1.flatMap Z_) rfl ?b2 ?b3 ?b4 ?b5 ?b6 ?b7 (fun v' w3 HO HG=>?_)))
      case b1=>exact Yj (ZF Yu.o Wy.o) UE.o (fun k hk=>by omega)
      case b2=>exact DD.o
      case b3=>exact Wf _
      case b4=>exact Yk _
      case b5=>simp;omega
      case b6=>simp;omega
      case b7=>omega
      go_roundw
      case rel=>
       repeat apply Exists.intro
       refine ⟨⟨k+1,Zo,Zn,?_,?_,?_⟩,rfl⟩
       ·have h2:=U5.o.trans ((Fr.Z9 (· = b) Wy.o).mono Zo (fun _ _ h=>h))
        have h3:=h2.trans (UE.o.mono Zo (fun _ _ h=>h))
        exact h3.grown HG.o Zo (Yw Yu.o)
       ·rw [HF.o]
        exact ZT.grown AW.o (Yj (ZF Yu.o Wy.o) UE.o (fun k hk=>by omega)) HG.o hb
       ·rw [HF.o]
        dsimp only
        rw [←pL,SP,QL]
        exact HO.o
      case measure=>simp [intOf];omega
     ·have HF:Hid (ZU.ZM p X.2 (k+1)=ZU.ZM p X.2 k):=by show _=_;rw [HS.o,Z6 ho]
      have Dh:((ZU.ZM p X.2 k).2.owner ((k:Int)+1) == p)=false:=by rw [WT];exact ho
      clear ho
      generalize (ZU.ZM p X.2 k).2.owner ((k:Int)+1)=q at *
      generalize ZU.ZM p X.2 k=G at *
      go_wp2_with (go_at_call 75;(with_reducible refine CO.o.mono ?_);rintro e w1 ⟨rfl,Zj⟩)
      go_roundw
      case rel=>
       repeat apply Exists.intro
       exact ⟨⟨k+1,Zo,Zn,U5.o.trans ((Fr.Z9 (· = b) Zj).mono Vr (fun _ _ h=>h)),by rw [HF.o];exact VW.o.below Zj,by rw [HF.o];exact ZF Yu.o Zj⟩,rfl⟩
      case measure=>simp [intOf];omega
    ·obtain rfl:k=8:=by omega
     obtain ⟨hpe,dD,-⟩:=HLF.o 8
     rw [HPE.o] at hpe
     clear Dc HLF HPE qy
     generalize ZU.ZM p X.2 8=G at *
     have oN:0≤G.2.Yx p:=by rw [IA,hpe,←IA];exact JW.o
     obtain ⟨m,hm,PU,-,-⟩:=Yh oN
     have PU:G.2.Yx p=m:=PU
     have cb:=Uh b G.2 p wr VW.o
     rw [PU] at cb
     have CB:=Zh cb
     have HE:Hid (G.2.Po p={G.2 with ZK:=G.2.ZK.take m++G.2.ZK.drop (m+1)}):=by show _=_;unfold ZU.Po;rw [PU,Xf,List.eraseIdx_eq_take_drop_succ]
     have U4:=dD.ZK
     unfold small at U4
     clear cb PU oN dD hpe
     go_wp2_with fail
     (with_reducible refine CB.o.mono ?_)
     rintro e V ⟨rfl,OE⟩
     have Nz:=Zh (VW.o.below OE)
     have HFV:Hid (Fr w (· = b) w V):=U5.o.trans ((Fr.Z9 _ OE).mono Vr (fun _ _ h=>h))
     have HOV:=Zh (ZF Yu.o OE)
     have vK:w.heap.size≤V.heap.size:=Rh Vr OE.size
     clear OE CB
     obtain ⟨pv,sv,uv,YJ,X_⟩:=Nz.o.Wh
     have UR:=X_.ZK
     obtain ⟨a,cap,rfl,PV,xH,-,-⟩:=id UR
     obtain ⟨a1,dQ,Ce,-⟩:=RM Vv a G.2.ZK.length cap m Zo
     obtain ⟨a2,tK,Cf,-⟩:=Tt Vv a G.2.ZK.length cap (m+1) Zo PV
     rw [show (((m+1:Nat):Int))=(m:Int)+1 by omega] at tK
     have AY:Hid (∀ w',Below V V w'→Row w' 103 (.slice a1 m cap) m ((G.2.ZK.take m).flatMap Zf)):=fun w' h=>by
      have:=Ce w' _ Zo (P9 _) (UR.below h)
      rwa [KN Zf 2 (fun _=>rfl)] at this
     have EZ:Hid (∀ w',Below V V w'→Row w' 103 (.slice a2 (G.2.ZK.length-(m+1)) (cap-(m+1))) (G.2.ZK.length-(m+1)) ((G.2.ZK.drop (m+1)).flatMap Zf)):=fun w' h=>by
      have:=Cf w' _ (P9 _) (UR.below h)
      rwa [KM Zf 2 (fun _=>rfl)] at this
     have Lb:Hid (((G.2.ZK.take m).flatMap Zf).length=m*2):=by show _=_;rw [P9,TU,Nat.min_eq_left Zo]
     have Dc:Hid (((G.2.ZK.drop (m+1)).flatMap Zf).length=(G.2.ZK.length-(m+1))*2):=by show _=_;rw [P9,RU]
     have kv:Hid ((G.2.ZK.take m++G.2.ZK.drop (m+1)).length=m+(G.2.ZK.length-(m+1))):=by show _=_;rw [SP,TU,RU,Nat.min_eq_left Zo]
     have HC:Hid (∀ w',Below V V w'→w'.cell? ⟨b,0,none⟩=some (.slice a G.2.ZK.length cap)):=fun w' h=>(h.cell (p:=⟨b,0,none⟩) UL).trans (cell_of YJ 0)
     have KP:=Nz.o.YS 0
     have HFZ:Hid (∀ w',Below V V w'→w'.frozen? ⟨b,0,none⟩=false):=fun w' h=>(h.frozen (p:=⟨b,0,none⟩) UL).trans KP
     have Dk:m+1≤G.2.ZK.length:=hm
     have dI:IntKind.i64.wrap ((m:Int)+1)=(m:Int)+1:=Ua _ Zo
     have GC:=HC.o V (YG _ _)
     have Ri:Below V V V:=YG _ _
     clear KP X_ YJ UR Ce Cf hm
     generalize G.2.ZK.length=N at *
     go_wp2_with fail
     go_region_law (first|(refine Zw Zr (.const (.slice none 0 0)) (.tmp 48) 47 Zr V.heap.size Vv (.slice none 0 0) 0 [] Zr (Us _ _ _ _) (.slice a1 m cap) m ((G.2.ZK.take m).flatMap Zf) Zr ?_ Lb.o (P_ _) Zo Zo ?_ ?_;(exact AY.o _ E4);(exact Below.size E4);intro v1 w2 UK Pt;have YF:Below V V w2:=Below.grown E4 Pt.o (Below.size E4) (Yw (Us V _ 103 2));have c2:=HC.o _ YF)|(refine Zw Zr (.tmp 49) (.tmp 56) 47 Zr V.heap.size Vv v1 (0+m) ([]++(G.2.ZK.take m).flatMap Zf) Zr ?_ (.slice a2 (N-(m+1)) (cap-(m+1))) (N-(m+1)) ((G.2.ZK.drop (m+1)).flatMap Zf) Zr ?_ Dc.o (P_ _) Zo Zo ?_ ?_;(first|exact UK.o|exact XH UK.o);(exact EZ.o _ E4);(exact Below.size E4);intro v2 w3 QJ Li;have WX:Below V V w3:=Below.grown E4 Li.o (Below.size E4) (Yw UK.o);have c3:=HC.o _ WX;have f3:=HFZ.o _ WX;obtain ⟨va,vc,hv⟩:=Yz QJ.o;subst hv))
     all_goals
      go_wp2
      go_ret
      have Z7:=Row.ZV QJ.o
      rw [KF,←QL,OD] at Z7
      have GJ:ZT w3 b G.2:=Nz.o.below WX
      have Ni:m+(N-(m+1))=(G.2.ZK.take m++G.2.ZK.drop (m+1)).length:=by rw [kv.o]
      rw [Ni] at Z7
      have Bx:=GJ.Cm Z7
      rw [←Ni] at Bx
      refine ⟨⟨_,rfl,?_⟩,?_,?_⟩
      ·rw [eu.o]
       exact (((Row.ZV HOV.o).below WX).fr ((Fr.refl w3.heap.size (· = b) w3).setAt _ _) (ZB _) (GJ.G' Zd))
      ·rw [eu.o]
       dsimp only
       rw [HE.o]
       exact Bx
      ·exact (HFV.o.trans ((Fr.Z9 _ WX).mono vK (fun _ _ h=>h))).setAt _ _
end Go.Proofs.Rm
namespace Go.Proofs.Rm
open Go.RowKit Go.Proofs.Heap Go.Proofs.Mem
theorem wh (b:Nat) (T:ZU) (p x:Int) (w:World) (hR:ZT w b T) (VV:T.Small) :
  Calls Tryz.prog 104 (Q8 (some ⟨b,0,none⟩) p x) w fun e w'=>(∃ v,e = .returned (.tuple #[v,.int .i64 (T.Y7 p x).2])∧YM w' v (T.Y7 p x).1.1)∧ZT w' b (T.Y7 p x).1.2∧Fr w (· = b) w w':=by
 have CO:=Zh (fun (w1:World) (h:Below w w w1)=>NW b T x w1 (hR.below h))
 have CP:=Zh (fun (w1:World) (h:Below w w w1)=>Uh b T p w1 (hR.below h))
 have CW:=Zh (fun (w1:World) (h:Below w w w1)=>RS b T (T.of x).1 w1 (hR.below h))
 have CE:=Zh (fun (w1:World) (h:Below w w w1) (hs:0≤T.Zq (T.of x).1)=>QO b T (T.of x).1 w1 (hR.below h) VV hs)
 have HG:Hid (T.Y7 p x=if !(T.of x).2.2 || decide (T.Yx p<0) || decide (T.owner (T.of x).1≠p) then (([],T),8) else (T.YD (T.of x).1,0)):=rfl
 have HR:=Zh hR
 have Gn:Hid ((T.of x).2.2=true→0≤T.Zq (T.of x).1):=fun h=>by
  unfold ZU.of at h ⊢
  by_cases hh:T.Su x<0
  ·rw [ZX hh] at h;cases h
  ·rw [Z6 hh]
   obtain ⟨k,hk,SL,-,-⟩:=Yh (show 0≤T.Su x by omega)
   have SL:T.Su x=k:=SL
   dsimp only
   rw [SL,Xf,K6,Sq,VQ hk]
   exact ⟨T.Yv[k],Pw hk,rfl⟩
 clear hR VV
 generalize T.Y7 p x=gv at *
 generalize T.of x=O at *
 obtain ⟨o1,o2,o3⟩:=O
 dsimp only at *
 generalize T.Yx p=pa at *
 generalize T.owner o1=ow at *
 cases o3
 ·have HF:Hid (gv=(([],T),8)):=by show _=_;rw [HG.o];rfl
  go_enter Tryz.func104,Tryz.ntmps104
  go_wp2_with (go_at_call 74;(with_reducible refine (CO.o _ (YG _ _)).mono ?_);rintro e w1 ⟨rfl,Zj⟩)
  go_ret2
  rw [HF.o]
  exact ⟨⟨_,rfl,Row.nil _ _⟩,HR.o.below Zj,Fr.Z9 _ Zj⟩
 ·have hs:=Gn.o rfl
  by_cases h1:pa<0
  ·have HF:Hid (gv=(([],T),8)):=by show _=_;rw [HG.o,Ws h1];rfl
   go_enter Tryz.func104,Tryz.ntmps104
   go_wp2_with (first|(go_at_call 74;(with_reducible refine (CO.o _ (YG _ _)).mono ?_);rintro e w1 ⟨rfl,Zj⟩)|(go_at_call 48;(with_reducible refine (CP.o _ Zj).mono ?_);rintro e w2 ⟨rfl,Y0⟩))
   go_ret2
   rw [HF.o]
   have hb:=Zj.trans (Y0.mono Zj.size)
   exact ⟨⟨_,rfl,Row.nil _ _⟩,HR.o.below hb,Fr.Z9 _ hb⟩
  have h1p:0≤pa:=by omega
  have h1d:decide (pa<0)=false:=WN h1
  by_cases h2:ow=p
  ·subst h2
   have HF:Hid (gv=(T.YD o1,0)):=by show _=_;rw [HG.o,h1d];simp
   generalize T.YD o1=Y at *
   go_enter Tryz.func104,Tryz.ntmps104
   go_wp2_with (first|(go_at_call 74;(with_reducible refine (CO.o _ (YG _ _)).mono ?_);rintro e w1 ⟨rfl,Zj⟩)|(go_at_call 48;(with_reducible refine (CP.o _ Zj).mono ?_);rintro e w2 ⟨rfl,Y0⟩;have Gz:=Zj.trans (Y0.mono Zj.size))|(go_at_call 75;(with_reducible refine (CW.o _ Gz).mono ?_);rintro e w3 ⟨rfl,Ut⟩;have Fk:=Gz.trans (Ut.mono Gz.size))|(go_at_call 98;(with_reducible refine (CE.o _ Fk hs).mono ?_);rintro e w4 ⟨⟨tv,rfl,S0⟩,VE,Xm⟩))
   go_ret2
   rw [HF.o]
   exact ⟨⟨_,rfl,S0⟩,VE,(Fr.Z9 _ Fk).trans (Xm.mono Fk.size (fun _ _ h=>h))⟩
  ·have HF:Hid (gv=(([],T),8)):=by show _=_;rw [HG.o,h1d];simp [h2]
   have Dh:(ow == p)=false:=by rw [WT];exact h2
   have hbq2:(ow != p)=true:=by rw [bne,Dh];rfl
   go_enter Tryz.func104,Tryz.ntmps104
   go_wp2_with (first|(go_at_call 74;(with_reducible refine (CO.o _ (YG _ _)).mono ?_);rintro e w1 ⟨rfl,Zj⟩)|(go_at_call 48;(with_reducible refine (CP.o _ Zj).mono ?_);rintro e w2 ⟨rfl,Y0⟩;have Gz:=Zj.trans (Y0.mono Zj.size))|(go_at_call 75;(with_reducible refine (CW.o _ Gz).mono ?_);rintro e w3 ⟨rfl,Ut⟩;have Fk:=Gz.trans (Ut.mono Gz.size)))
   go_ret2
   rw [HF.o]
   exact ⟨⟨_,rfl,Row.nil _ _⟩,HR.o.below Fk,Fr.Z9 _ Fk⟩
end Go.Proofs.Rm
