/- Part of a proof. -/
import Derived.Test.YtpdjhlcbcomdkaaGreatDoorW36
set_option linter.unusedVariables false
set_option linter.unusedSimpArgs false
set_option maxRecDepth 100000
set_option maxHeartbeats 16000000
open Go Go.Q Go.Qr
namespace Go.Proofs.By
open Go.RowKit Go.Proofs.Heap Go.Proofs
open Go.Proofs.Rm (below_drewN)
theorem xE {w:World} {a:Option Addr} {n c:Nat} {l:List Zq} (h:Row w 59 (.slice a n c) n (l.flatMap ZY)) {j:Nat} {z:Zq} (hz:l[j]?=some z):∃ g o,a=some ⟨g,o,none⟩ ∧
  w.cell? ⟨g,o+j*4,none⟩=some (.int .i64 z.peer)∧w.cell? ⟨g,o+j*4+1,none⟩=some (.int .i64 z.source)∧w.cell? ⟨g,o+j*4+2,none⟩=some (.int .i64 z.Kf)∧w.cell? ⟨g,o+j*4+3,none⟩=some (.int .i64 z.fin):=by
 have hl:j<l.length:=(List.getElem?_eq_some_iff.1 hz).1
 obtain ⟨g,o,e,h2⟩:=Tp ZY 4 (fun _=>rfl) h Zo
 exact ⟨g,o,e,h2 j z hz 0 Zo,h2 j z hz 1 Zo,h2 j z hz 2 Zo,h2 j z hz 3 Zo⟩
theorem vX (lv:Value) (LS:List Zq) (x:Zq) (w:World) (h:Row w 59 lv LS.length (LS.flatMap ZY)) :
  Calls Tryz.prog 142 #[lv,.agg (ZY x).toArray] w fun e w'=>(∃ i:Int,e = .returned (.int .i64 i)∧(0≤i↔x∈LS))∧Below w w w':=by
 obtain ⟨va,vc,rfl⟩:=Row.form h
 have BC:LS.length≤maxLen:=by
  obtain ⟨a,c,e,h1,h2,_⟩:=h
  injection e with _ _ e
  omega
 unfold maxLen at BC
 obtain ⟨p,s,b,f⟩:=x
 have HR:=Zh h
 clear h
 dsimp only [ZY]
 have Vp:Hid (Below w w (w.alloc (.cells (Qe p s b f) 59))):=Z' w _
 have Sc:Hid ((w.alloc (.cells (Qe p s b f) 59)).heap[w.heap.size]?=some (.cells (Qe p s b f) 59 (0,0))):=Z7 w _
 go_enter Tryz.func142,Tryz.ntmps142
 go_wp2_with fail
 generalize w.alloc (.cells (Qe p s b f) 59)=w0 at *
 go_loopw [8] (fun s8 w'=>∃ j:Nat,j≤LS.length∧s8 = .int .i64 (j:Int)∧Below w w w'∧w'.heap[w.heap.size]?=some (.cells (Qe p s b f) 59 (0,0))∧Hid (∀ i,i<j→LS[i]?≠some ⟨p,s,b,f⟩)) (fun s8 _=>LS.length-(intOf s8).toNat)
 case atStart=>exact ⟨0,Zo,rfl,Vp.o,Sc.o,fun i hi=>by omega⟩
 case round=>
  obtain ⟨j,hj,rfl,Wn,hz,aA⟩:=hrel
  clear Vp Sc
  have HB:=Zh Wn
  have HZ:=Zh hz
  by_cases S4:j<LS.length
  ·have hy:LS[j]?=some LS[j]:=U7 S4
   obtain ⟨g,o,e,y0,y1,y2,y3⟩:=xE (HR.o.below Wn) hy
   cases e
   have z0:wr.cell? ⟨w,0,none⟩=some (.int .i64 p):=Zc hz 0 rfl
   have z1:wr.cell? ⟨w,1,none⟩=some (.int .i64 s):=Zc hz 1 rfl
   have z2:wr.cell? ⟨w,2,none⟩=some (.int .i64 b):=Zc hz 2 rfl
   have z3:wr.cell? ⟨w,3,none⟩=some (.int .i64 f):=Zc hz 3 rfl
   have Al:(j:Int)<(LS.length:Int):=Ou.2 S4
   generalize hq:LS[j]=q at *
   have HY:=Zh hy
   clear hy hq Wn hz
   obtain ⟨p',s',b',f'⟩:=q
   dsimp only at y0 y1 y2 y3
   by_cases he:(⟨p,s,b,f⟩:Zq)=⟨p',s',b',f'⟩
   ·cases he
    go_wp2_with fail
    go_quiet (fail)
    have X6:=Zh (below_drewN HB.o nq)
    go_wp2_with fail
    go_ret
    exact ⟨⟨(j:Int),rfl,⟨fun _=>List.mem_of_getElem? HY.o,fun _=>by omega⟩⟩,X6.o⟩
   ·have qY:Hid (∀ i,i<j+1→LS[i]?≠some ⟨p,s,b,f⟩):=fun i hi hc=>by
     by_cases h:i=j
     ·rw [h,HY.o] at hc;exact he (Option.some.inj hc).symm
     ·exact aA.o i Zo hc
    by_cases h1:p=p'
    rotate_left
    ·have f1:(p == p')=false:=by rw [WQ];exact h1
     exact jV
    subst h1
    by_cases h2:s=s'
    rotate_left
    ·have f1:(s == s')=false:=by rw [WQ];exact h2
     exact jV
    subst h2
    by_cases h3:b=b'
    rotate_left
    ·have f1:(b == b')=false:=by rw [WQ];exact h3
     exact jV
    subst h3
    have h4:f≠f':=fun h=>he (by rw [h])
    have f1:(f == f')=false:=by rw [WQ];exact h4
    exact jV
  ·have MM:j=LS.length:=by omega
   have qY:Hid ((⟨p,s,b,f⟩:Zq) ∉ LS):=fun hm=>by
    obtain ⟨i,hi,hc⟩:=List.mem_iff_getElem.1 hm
    exact aA.o i Zo (by rw [U7 hi,hc])
   clear Wn hz
   go_wp2_with fail
   go_ret
   exact ⟨⟨-1,rfl,⟨fun h=>absurd h Zd,fun h=>absurd h qY.o⟩⟩,HB.o⟩
theorem MH (lv:Value) (LS:List Zq) (x:Zq) (w:World) (h:Row w 59 lv LS.length (LS.flatMap ZY)) :
  Calls Tryz.prog 113 #[lv,.agg (ZY x).toArray] w fun e w'=>e = .returned (.bool (decide (x∈LS)))∧Below w w w':=by
 have Vp:Hid (Below w w (w.alloc (.cells (ZY x).toArray 59))):=Z' w _
 have CI:=Zh (vX lv LS x _ (Row.below h Vp.o))
 have HX:Hid (∀ i:Int,(0≤i↔x∈LS)→decide (0≤i)=decide (x∈LS)):=fun i hi=>by rw [Bool.eq_iff_iff,Oh,Oh];exact hi
 generalize decide (x∈LS)=X at *
 generalize (x∈LS)=M at *
 clear h
 obtain ⟨p,s,b,f⟩:=x
 dsimp only [ZY] at CI Vp ⊢
 go_enter Tryz.func113,Tryz.ntmps113
 go_wp2_with (go_at_call 142;refine CI.o.mono ?_;rintro e w2 ⟨⟨i,rfl,hi⟩,Y0⟩;have X6:=Zh (Vp.o.trans (Y0.mono Vp.o.size));have HI:=Zh (HX.o i hi);clear hi Y0)
 go_ret
 exact ⟨by rw [←HI.o];rfl,X6.o⟩
end Go.Proofs.By
namespace Go.Proofs.Heap
open Go Go.RowKit
section
variable {P:Program}
theorem qG {w:World} (t ty:TypeId) (base:Nat) {e:TypeId} {size bytes:Nat} (E:Elem P t e size bytes) (v:Value) (n:Nat) (xs:List Value) (YJ:w.ownsRow base e size v n xs)
  (b m c:Nat) (news:List Value) (Z0:Row w e (.slice (some ⟨b,0,none⟩) m c) m news) (hl:news.length=m*size) (h1:∀ u∈news,u.oneCell'=true) (hm:0<m)
  (Uy:(n+m)*bytes≤140737488355328) (oO:n+m≤9223372036854775807) (Sk:base≤w.heap.size) :
  ∃ v' w',(Builtin.append_ #[t,t] ty #[v,.slice (some ⟨b,0,none⟩) m c]).run P w = .ok v' w'∧w'.ownsRow base e size v' (n+m) (xs++news)∧w.grownBy w' v.ownBlock ∧
   ∀ i,v'.ownBlock=some i→v.ownBlock=some i∨i=w.heap.size:=by
 obtain ⟨v',w',hr,h2,h3⟩:=vH (P:=P) t ty base E v n xs YJ _ m news Z0 hl h1 Uy oO Sk
 refine ⟨v',w',hr,h2,h3,?_⟩
 obtain ⟨z,UH,mr⟩:=E.info
 obtain ⟨i,hi,hz,Sq,yS⟩:=info_parts UH
 subst Sq
 subst yS
 have py:∀ j u,news[j]?=some u→w.cell? ((⟨b,0,none⟩:Addr).add j)=some u:=by
  obtain ⟨ad,cap,hv,_,_,_,hr⟩:=Z0
  injection hv with hv _ _
  subst hv
  intro j u hu
  rcases hr with hr|⟨b',off,c',fr,N8,hb,hc⟩
  ·subst hr;simp at hu
  ·cases N8
   have hj:j<news.length:=(List.getElem?_eq_some_iff.1 hu).1
   have:=hc j hj
   have Nw:(⟨b,0,none⟩:Addr).add j=⟨b,0+j,none⟩:=by unfold Addr.add;split <;> simp_all
   rw [Nw]
   simp only [World.cell?,hb]
   simpa [hu] using this
 have hl2:∀ k,(Value.slice (some ⟨w,0,none⟩) (n+m) k).ownBlock=some w.heap.size:=fun _=>rfl
 rcases YJ.2 with ⟨rfl,rfl⟩|⟨g,cap,cur,rfl,hbg,hg,hnc,wR,Tz,htake⟩
 ·rw [QP] at Uy
  have Nf:=run_append_nil (P:=P) w t ty e i z E.ht hi hz ⟨b,0,none⟩ m c news hl py hm Zo Zo
  rw [Nf] at hr
  injection hr with e1 _
  subst e1
  intro k hk
  exact Wi (Option.some.inj hk).symm
 ·by_cases Xt:n+m≤cap
  ·have hfit:n*i.size+news.length≤cur.size:=by rw [hl,Tz,←Nat.add_mul];exact Nat.mul_le_mul_right _ Xt
   have Nf:=run_append_room (P:=P) w t ty e i E.ht hi g n cap cur hg ⟨b,0,none⟩ m c news hl py h1 Xt hfit
   rw [Nf] at hr
   injection hr with e1 _
   subst e1
   intro k hk
   exact Ww hk
  ·have holds:∀ j u,xs[j]?=some u→w.cell? ((⟨g,0,none⟩:Addr).add j)=some u:=YJ.cells (g:=g) rfl
   have Nf:=run_append_grow (P:=P) w t ty e i z E.ht hi hz ⟨g,0,none⟩ n cap xs YJ.1 holds ⟨b,0,none⟩ m c news hl py Zo Zo (growslice_fits Zo Uy)
   rw [Nf] at hr
   injection hr with e1 _
   subst e1
   intro k hk
   exact Wi (Option.some.inj hk).symm
theorem Xj {ops:Array Oper} {o:Oper} {a:Act} {w:World} {K:Act→World→Prop} {Q:Exit→Act→World→Prop} {E':Prop} (Mq:o.guard=none) (s x:Operand) (t:TypeId)
  (ho:o.op = .call {callee:= .builtin .append,args:=#[s,x],argTypes:=#[t,t]})
  (base:Nat) {e:TypeId} {size bytes:Nat} (E:Elem P t e size bytes)
  (v:Value) (n:Nat) (xs:List Value) (hs:a.eval s=v) (YJ:w.ownsRow base e size v n xs)
  (b m c:Nat) (news:List Value) (hx:a.eval x = .slice (some ⟨b,0,none⟩) m c) (Z0:Row w e (.slice (some ⟨b,0,none⟩) m c) m news) (hl:news.length=m*size) (h1:∀ u∈news,u.oneCell'=true) (hm:0<m)
  (Uy:(n+m)*bytes≤140737488355328) (oO:n+m≤9223372036854775807) (Sk:base≤w.heap.size)
  (h:∀ v' w',Hid (w'.ownsRow base e size v' (n+m) (xs++news))→Hid (w.grownBy w' v.ownBlock)→Hid (∀ i,v'.ownBlock=some i→v.ownBlock=some i∨i=w.heap.size)→K (a.put o.dst v') w') :
  if Region.wanted o (yielded ops a.tmps)=true then Oper.wp P o a w K Q else E':=by
 have hw:Region.wanted o (yielded ops a.tmps)=true:=by simp [Region.wanted,Mq]
 rw [ZQ hw]
 obtain ⟨v',w',Dc,h2,h3,h4⟩:=qG (P:=P) t o.type base E v n xs YJ b m c news Z0 hl h1 hm Uy oO Sk
 unfold Oper.wp
 simp [execOp,ho,resolve,invoke,builtin,hs,hx,Dc,Result.andThen]
 exact h v' w' h2 h3 h4
theorem Yo {ops:Array Oper} {o:Oper} {a:Act} {w:World} {K:Act→World→Prop} {Q:Exit→Act→World→Prop} {E':Prop} (Mq:o.guard=none) {t e:TypeId} {bytes:Nat} (E:Elem P t e 1 bytes) (x:Operand) (ho:o.op = .buildSlice t 1 #[(0,x)])
  (v:Value) (hx:a.eval x=v) (hv:v.cells=#[v])
  (h:K (a.put o.dst (.slice (some ⟨w,0,none⟩) 1 1)) (w.alloc (.cells #[v] e))):if Region.wanted o (yielded ops a.tmps)=true then Oper.wp P o a w K Q else E':=by
 exact Yx59
end
end Go.Proofs.Heap
