/- Part 10 of the proof (A1, Q1, Q2, Q3, A2, Q4, Q5, Q6, Q7, Q8); no condition. -/
import Derived.Test.YtocilianjfhifaaGreatDoorV9
set_option linter.unusedVariables false
/- Adding coverages that fit a model: what it is, and what it keeps; no condition. -/
namespace Go.Proofs.YtocilianjfhifaaGreatDoor.Cov
open Go Go.Proofs Go.Proofs.YtocilianjfhifaaGreatDoor.Sm Go.Proofs.YtocilianjfhifaaGreatDoor.Bins Go.RowKit

/-- the sum of two counts -/
def UY (a b:Int):Int:=min (a+b) 1099511627776
theorem JW {n:Int}:IB n=true↔0≤n∧n≤1099511627776:=by unfold IB; simp
theorem UX {a b:Int} (ha:IB a=true) (hb:IB b=true):IB (UY a b)=true:=by
 rw [JW] at *; unfold UY; omega
theorem ASS {a b:Int} (ha:IB a=true) (hb:IB b=true):decide (UY a b > 0)=(decide (a > 0) || decide (b > 0)):=by
 rw [JW] at *
 unfold UY
 rw [Bool.eq_iff_iff]
 simp only [decide_eq_true_eq,Bool.or_eq_true]
 omega
theorem ADJ {n:Int} {p:Bool} (h:countB n p=true):IB n=true:=by unfold countB at h; simp only [Bool.and_eq_true] at h; exact h.1
theorem AK8 {a b:Int} {p:Bool} (ha:countB a p=true) (hb:countB b p=true):countB (UY a b) p=true:=by
 unfold countB at *
 simp only [Bool.and_eq_true] at *
 refine ⟨UX ha.1 hb.1,?_⟩
 cases p
 ·have h1:=ha.2; have h2:=hb.2
  simp only [Bool.false_or,beq_iff_eq] at h1 h2
  subst h1; subst h2; rfl
 ·rfl
/-- the sums of two lists -/
def PX (x y:List Int):List Int:=List.zipWith UY x y
def X3 (x y:Is):Is:=⟨nm (PX x.l y.l),PX x.l y.l⟩
def KL (a b:List Is):List Is:=List.zipWith X3 a b
def O1 (a b:Cvr):Cvr:=⟨nm (KL a.pts b.pts),KL a.pts b.pts,nm (KL a.crs b.crs),KL a.crs b.crs,UY a.sam b.sam,UY a.ill b.ill⟩
/-- numbers that are counts -/
def WL (x:List Int):Prop := ∀ n∈x,IB n=true
theorem UF : ∀ {x:List Int} {p:Nat→Bool} {k:Nat},PE p k x=true→WL x
 | [],_,_,_=>fun _ h=>by cases h
 | n :: x,p,k,h=>by
   simp only [PE,Bool.and_eq_true] at h
   intro m hm
   rcases List.mem_cons.1 hm with rfl | hm
   ·exact ADJ h.1
   ·exact UF h.2 m hm
theorem AA4 : ∀ {x y:List Int} {p:Nat→Bool} {k:Nat},PE p k x=true→PE p k y=true→PE p k (PX x y)=true
 | [],_,_,_,_,_=>by simp [PX,PE]
 | _ :: _,[],_,_,_,_=>by simp [PX,PE]
 | a :: x,b :: y,p,k,ha,hb=>by
   simp only [PE,Bool.and_eq_true] at ha hb
   have ih:=AA4 ha.2 hb.2
   simp only [PX,List.zipWith_cons_cons,PE,Bool.and_eq_true]
   exact ⟨AK8 ha.1 hb.1,ih⟩
theorem ATP {p:Pt} {x y:Is} (hx:okP p x=true) (hy:okP p y=true):okP p (X3 x y)=true:=by
 unfold okP at *
 simp only [Bool.and_eq_true,beq_iff_eq] at *
 refine ⟨?_,AA4 hx.2 hy.2⟩
 show (PX x.l y.l).length=_
 unfold PX; rw [List.length_zipWith]; omega
theorem ATR {m:Mo} {c:Cr} {x y:Is} (hx:okC m c x=true) (hy:okC m c y=true):okC m c (X3 x y)=true:=by
 unfold okC at *
 simp only [Bool.and_eq_true,beq_iff_eq] at *
 refine ⟨?_,AA4 hx.2 hy.2⟩
 show (PX x.l y.l).length=_
 unfold PX; rw [List.length_zipWith]; omega
theorem AB1 {α:Type} {ok:α→Is→Bool} (hok : ∀ a x y,ok a x=true→ok a y=true→ok a (X3 x y)=true) : ∀ {ws:List α} {xs ys:List Is},KQ ok ws xs=true→KQ ok ws ys=true→KQ ok ws (KL xs ys)=true
 | [],[],[],_,_=>rfl
 | a :: ws,x :: xs,y :: ys,hx,hy=>by
   simp only [KQ,Bool.and_eq_true] at hx hy
   simp only [KL,List.zipWith_cons_cons,KQ,Bool.and_eq_true]
   exact ⟨hok _ _ _ hx.1 hy.1,AB1 hok hx.2 hy.2⟩
 | [],_ :: _,_,h,_=>by cases h
 | [],[],_ :: _,_,h=>by cases h
 | _ :: _,[],_,h,_=>by cases h
 | _ :: _,_ :: _,[],_,h=>by cases h
/-- what it is to fit -/
theorem JG {m:Mo} {v:Cvr}:FN m v=true↔FU m=0∧KQ okP m.pts v.pts=true∧KQ (okC m) m.crs v.crs=true∧IB v.sam=true∧IB v.ill=true:=by
 unfold FN
 simp only [Bool.and_eq_true,beq_iff_eq]
 exact ⟨fun ⟨⟨⟨⟨a,b⟩,c⟩,d⟩,e⟩=>⟨a,b,c,d,e⟩,fun ⟨a,b,c,d,e⟩=>⟨⟨⟨⟨a,b⟩,c⟩,d⟩,e⟩⟩
theorem AEH {m:Mo} {a b:Cvr} (ha:FN m a=true) (hb:FN m b=true):FN m (O1 a b)=true:=by
 rw [JG] at *
 obtain ⟨h1,h2,h3,h4,h5⟩:=ha
 obtain ⟨_,k2,k3,k4,k5⟩:=hb
 exact ⟨h1,AB1 (fun _ _ _=>ATP) h2 k2,AB1 (fun _ _ _=>ATR) h3 k3,UX h4 k4,UX h5 k5⟩
/-- the coverage without samples -/
def zeros (n:Nat):List Int:=List.replicate n 0
def zIs (n:Nat):Is:=⟨.full,zeros n⟩
def zPs (m:Mo):List Is:=m.pts.map fun p=>zIs p.bins.length
def zCs (m:Mo):List Is:=m.crs.map fun c=>zIs (FY (szs m c.pts))
def J6 (m:Mo):Cvr:=⟨nm (zPs m),zPs m,nm (zCs m),zCs m,0,0⟩
theorem X9 : ∀ (n:Nat) {p:Nat→Bool} {k:Nat},PE p k (zeros n)=true
 | 0,_,_=>rfl
 | n+1,p,k=>by
   have ih:=X9 n (p:=p) (k:=k+1)
   unfold zeros at *
   simp only [List.replicate_succ,PE,ih,Bool.and_true]
   unfold countB; cases p k <;> rfl
theorem ABZ {α:Type} {ok:α→Is→Bool} (f:α→Is) (hf : ∀ a,ok a (f a)=true) : ∀ ws:List α,KQ ok ws (ws.map f)=true
 | []=>rfl
 | a :: ws=>by simp only [List.map_cons,KQ,hf,ABZ f hf ws,Bool.and_true]
theorem NY {m:Mo} (h:FU m=0):FN m (J6 m)=true:=by
 rw [JG]
 refine ⟨h,ABZ _ (fun p => ?_) _,ABZ _ (fun c => ?_) _,rfl,rfl⟩
 ·unfold okP; simp [zIs,X9]; simp [zeros]
 ·unfold okC; simp [zIs,X9]; simp [zeros]
/-- what a coverage says, however it lies -/
structure Dat where
 pts:List (List Int)
 crs:List (List Int)
 sam:Int
 ill:Int
def XU (v:Cvr):Dat:=⟨v.pts.map (·.l),v.crs.map (·.l),v.sam,v.ill⟩
def X0 (a b:List (List Int)):List (List Int):=List.zipWith PX a b
def AST (a b:Dat):Dat:=⟨X0 a.pts b.pts,X0 a.crs b.crs,UY a.sam b.sam,UY a.ill b.ill⟩
theorem ANJ : ∀ a b:List Is,(KL a b).map (·.l)=X0 (a.map (·.l)) (b.map (·.l))
 | [],_=>by simp [KL,X0]
 | _ :: _,[]=>by simp [KL,X0]
 | x :: a,y :: b=>by
   have:=ANJ a b
   unfold KL X0 at *
   simp only [List.zipWith_cons_cons,List.map_cons,this]; rfl
theorem ACB (a b:Cvr):XU (O1 a b)=AST (XU a) (XU b):=by
 unfold XU AST O1; simp only [ANJ]
theorem AA9 {p:Pt} {x:Is} (h:okP p x=true):WL x.l:=by
 unfold okP at h; simp only [Bool.and_eq_true] at h; exact UF h.2
theorem ABA {m:Mo} {c:Cr} {x:Is} (h:okC m c x=true):WL x.l:=by
 unfold okC at h; simp only [Bool.and_eq_true] at h; exact UF h.2
theorem AB0 {α:Type} {ok:α→Is→Bool} {Q:Is→Prop} (hq : ∀ a x,ok a x=true→Q x) : ∀ {ws:List α} {xs:List Is},KQ ok ws xs=true→∀ x∈xs,Q x
 | _,[],_=>fun _ h=>by cases h
 | a :: ws,x :: xs,h=>by
   simp only [KQ,Bool.and_eq_true] at h
   intro y hy
   rcases List.mem_cons.1 hy with rfl | hy
   ·exact hq _ _ h.1
   ·exact AB0 hq h.2 y hy
 | [],_ :: _,h=>by cases h
theorem AMB {p:Pt} {x:Is} (h:okP p x=true):x.l.length=p.bins.length:=by
 unfold okP at h; simp only [Bool.and_eq_true,beq_iff_eq] at h; exact h.1
theorem AMC {m:Mo} {c:Cr} {x:Is} (h:okC m c x=true):x.l.length=FY (szs m c.pts):=by
 unfold okC at h; simp only [Bool.and_eq_true,beq_iff_eq] at h; exact h.1
end Go.Proofs.YtocilianjfhifaaGreatDoor.Cov
/- Sums and equality of lists of counts, on both sides; no condition but the bounds on lengths. -/
set_option linter.unusedSimpArgs false
set_option maxRecDepth 8000
namespace Go.Proofs.YtocilianjfhifaaGreatDoor.Cov
open Go Go.Proofs Go.Proofs.YtocilianjfhifaaGreatDoor.Sm Go.Proofs.YtocilianjfhifaaGreatDoor.Bins Go.RowKit

theorem ACU (G:Nat→AV) (a b:Int) (h:Hp) (ha:IB a=true) (hb:IB b=true):PCall (En G) 147 [.int .i64 a,.int .i64 b] h (.int .i64 (UY a b)):=by
 have h1:=JW.1 ha
 have h2:=JW.1 hb
 refine CG (H:=Hint.none) (enM G) Tryz.func147 rfl (by kernel_rfl) (by kernel_rfl) (Nat.le_of_ble_eq_true (by kernel_rfl)) ?_
 show awp _ _ _ _ _ (EU _ [.tmp 4] _)
 simp -implicitDefEqProofs only [BB,AZ,BM,A8,CU,AY,BC,AO,AQ,AL,BD,AX,AC,AA,A7,AU,BH,BF,BA,BQ,AGT,AB,CZ,ABC,BG,BV,↓reduceIte,Nat.reduceEqDiff,Option.getD_some,Bool.not_false,enP,wrap_i64 (n:=a+b) (by omega) (by omega)]
 exact ⟨rfl,trivial⟩
/-- two lists of lists of counts of the same lengths -/
structure Sh2 (a b:List Is):Prop where
 len:a.length=b.length
 row : ∀ i (ha:i < a.length) (hb:i < b.length),a[i].l.length=b[i].l.length∧a[i].l≠[]∧WL a[i].l∧WL b[i].l∧a[i].l.length≤1048576
 num:a.length≤1048576
theorem AO0 (g:List Int) (k:Nat) (hk:k < g.length):((g.take k ++ zeros (g.length - k)).map encI).set k (encI g[k])=(g.take (k+1) ++ zeros (g.length - (k+1))).map encI:=by
 have hz:zeros (g.length - k)=0 :: zeros (g.length - (k+1)):=by
  unfold zeros
  rw [show g.length - k=(g.length - (k+1))+1 by omega,List.replicate_succ]
 rw [hz,List.take_succ_eq_append_getElem hk]
 simp only [List.map_append,List.map_cons,List.map_nil,List.append_assoc,List.singleton_append]
 rw [List.set_append_right _ _ (by simp; omega)]
 simp [Nat.min_eq_left (Nat.le_of_lt hk)]
theorem ARJ (g:List Int):(g.take g.length ++ zeros (g.length - g.length)).map encI=g.map encI:=by
 rw [List.take_length,Nat.sub_self]; simp [zeros]
theorem ARI (g:List Int) (k:Nat) (hk:k≤g.length):(g.take k ++ zeros (g.length - k)).length=g.length:=by
 simp [zeros]; omega
theorem mkI (h:Hp) (n:Nat) (hn:n≤1048576):JD Tryz.prog true h 57 (.int .i64 (n:Int)) (.int .i64 (n:Int))=some (.own h.length 0 n,h ++ [.live 1 ((zeros n).map encI)]):=by
 rw [AT4 h n hn,AAK]
 simp [zeros]
theorem AS8 {h:Hp} {o j:Nat} {rows:List (List AV)} {x:Int} (ho:h[o]? = some (.live 1 rows)) (hj : ∃ v,rows[j]? = some [v]):GG Tryz.prog h 3 (.ptr o j 0) (.int .i64 x)=some (h.set o (.live 1 (rows.set j (encI x)))):=by
 obtain ⟨v,hv⟩:=hj
 rw [MH (TK _ _) sz3 ho hv (by simp)]; rfl
theorem QV (h:Hp) (x y:ABlk):(h ++ [x]).set h.length y=h ++ [y]:=by simp
theorem AQF {g:List Int} {j:Nat} (hj:j < g.length) : ∃ v,(g.map encI)[j]? = some [v]:=⟨_,by rw [List.getElem?_map,List.getElem?_eq_getElem hj]; rfl⟩
theorem AEV (h:Hp) (m:SM) (xs:List (List AV)):FO Tryz.prog false h 26 1 [(0,.sl m 1 xs)]=some (.sl .full 1 [[.sl m 1 xs]],h):=by kernel_rfl
theorem AOT:Frz HY:=fun _ _ _ _=>⟨rfl,rfl⟩
theorem AWB (g:List Int):MZ (g.map encI)=true:=by
 unfold MZ
 rw [List.all_eq_true]
 intro r hr
 obtain ⟨x,_,rfl⟩:=List.mem_map.1 hr
 rfl
theorem AQN {α:Type} {ys:List α} (h:ys≠[]):nm ys = .any:=by cases ys with
 | nil=>exact absurd rfl h
 | cons _ _=>rfl
theorem AEY (a b:List Is) (h:a.length=b.length):(KL a b).length=a.length:=by unfold KL; rw [List.length_zipWith]; omega
theorem AJM (x y:List Int) (h:x.length=y.length):(PX x y).length=x.length:=by unfold PX; rw [List.length_zipWith]; omega
theorem AEZ (a b:List Is) (i:Nat) (ha:i < a.length) (hb:i < b.length) (hi:i < (KL a b).length):(KL a b)[i]=X3 a[i] b[i]:=List.getElem_zipWith
theorem AJN (x y:List Int) (i:Nat) (ha:i < x.length) (hb:i < y.length) (hi:i < (PX x y).length):(PX x y)[i]=UY x[i] y[i]:=List.getElem_zipWith
set_option maxHeartbeats 1000000 in
theorem ABH (G:Nat→AV) (a b:List Is) (s t:SM) (h:Hp) (hs:Sh2 a b):PCall (En G) 146 [.sl s 1 (a.map HY),.sl t 1 (b.map HY)] h (.sl (nm (KL a b)) 1 ((KL a b).map HY)):=by
 refine MS AOT ?_
 have hl:=hs.len
 have hn:=hs.num
 have hsl:=AEY a b hl
 refine CG (H:=hint [] [(43,[42])]) (enM G) Tryz.func146 rfl (by kernel_rfl) (by kernel_rfl) (Nat.le_of_ble_eq_true (by kernel_rfl)) ?_
 show awp _ _ _ _ _ (EU _ [.tmp 4] _)
 simp -implicitDefEqProofs only [CY,List.contains_nil,Nat.reduceBEq,BB,BP,AZ,A8,AY,BC,AL,BD,AX,AC,AA,A7,AU,BH,FV,BF,BA,DN,AB,BG,↓reduceIte,Nat.reduceEqDiff,Option.getD_some,Bool.not_false,enP,YF,Bool.false_eq_true,EH,List.length_map]
 refine C9 (fun n F H => ∃ i,n+i=a.length∧F 1 = .sl t 1 (b.map HY)∧F 10 = .sl s 1 (a.map HY)∧F 11 = .int .i64 a.length∧F 12 = .int .i64 (i:Nat)∧ext h H∧outG 1 HY h ((KL a b).take i) (F 5) H) a.length ⟨0,by simp,by simp -implicitDefEqProofs only [AA,BG,BV,↓reduceIte,Nat.reduceEqDiff],by simp -implicitDefEqProofs only [AA,↓reduceIte,Nat.reduceEqDiff],by simp -implicitDefEqProofs only [AA,↓reduceIte,Nat.reduceEqDiff],by simp -implicitDefEqProofs only [AA,↓reduceIte]; rfl,ext.rfl' h,by rw [List.take_zero]; exact outG.nil _ _ _ _⟩ ?_
 rintro n F H ⟨i,hi,f1,f10,f11,f12,he,ho⟩
 simp -implicitDefEqProofs only [CY,List.contains_nil,Nat.reduceBEq,BB,AZ,BI,A8,AY,BC,AL,BD,AX,AC,AA,A7,BQ,AB,CW,↓reduceIte,Option.getD_some,Bool.not_false,enP,Bool.false_eq_true,EH,f11,f12]
 refine CQ (fun hc => ?_) (fun hc => ?_)
 ·have ha:i < a.length:=by simpa using hc
  have hb:i < b.length:=by omega
  obtain ⟨r1,r2,r3,r4,r5⟩:=hs.row i ha hb
  have hSi:i < (KL a b).length:=by omega
  have hget:=AEZ a b i ha hb hSi
  have htk:=List.take_succ_eq_append_getElem hSi
  rw [hget] at htk
  have hgl:=AJM _ _ r1
  have hgi:=AJN a[i].l b[i].l
  have hgne:PX a[i].l b[i].l≠[]:=fun e=>r2 (List.eq_nil_of_length_eq_zero (by rw [← hgl,e]; rfl))
  have hadd:X3 a[i] b[i]=⟨.any,PX a[i].l b[i].l⟩:=by unfold X3; rw [AQN hgne]
  rw [hadd] at htk
  generalize PX a[i].l b[i].l=g at hgl hgi hgne htk
  simp -implicitDefEqProofs only [CY,List.contains_nil,Nat.reduceBEq,BB,BP,AZ,BN,A8,AY,BC,AL,BD,AX,AC,AA,A7,AU,BH,BF,BA,BO,JV,BZ,DN,BR,AB,↓reduceIte,Nat.reduceEqDiff,Option.getD_some,Bool.not_false,enP,QT,IL,Bool.false_eq_true,EH,f10,f12,DJ ha,CV LC ha,NC,List.length_map,mkI _ _ r5]
  refine F8 2 (fun F' H'=>F' 1 = .sl t 1 (b.map HY)∧F' 10 = .sl s 1 (a.map HY)∧F' 11 = .int .i64 a.length∧F' 12 = .int .i64 (i:Nat)∧F' 5=F 5∧F' 8 = .own H.length 0 g.length∧H'=H ++ [.live 1 (g.map encI)]) (fun _ _=>False) ?_ ?_ (fun _ _ hh=>hh.elim)
  ·refine C9 (fun n F' H' => ∃ k,n+k=g.length∧F' 1 = .sl t 1 (b.map HY)∧F' 10 = .sl s 1 (a.map HY)∧F' 11 = .int .i64 a.length∧F' 12 = .int .i64 (i:Nat)∧F' 5=F 5∧F' 8 = .own H.length 0 g.length∧F' 7 = .sl a[i].m 1 (a[i].l.map encI)∧F' 6 = .int .i64 (i:Nat)∧F' 21 = .int .i64 g.length∧F' 22 = .int .i64 (k:Nat)∧H'=H ++ [.live 1 ((g.take k ++ zeros (g.length - k)).map encI)]) g.length ⟨0,by simp,by simp -implicitDefEqProofs only [AA,↓reduceIte,Nat.reduceEqDiff,f1],by simp -implicitDefEqProofs only [AA,↓reduceIte,Nat.reduceEqDiff,f10],by simp -implicitDefEqProofs only [AA,↓reduceIte,Nat.reduceEqDiff,f11],by simp -implicitDefEqProofs only [AA,↓reduceIte,Nat.reduceEqDiff,f12],by simp -implicitDefEqProofs only [AA,↓reduceIte,Nat.reduceEqDiff],by simp -implicitDefEqProofs only [AA,↓reduceIte,Nat.reduceEqDiff]; rw [hgl],by simp -implicitDefEqProofs only [AA,↓reduceIte,Nat.reduceEqDiff],by simp -implicitDefEqProofs only [AA,↓reduceIte,Nat.reduceEqDiff],by simp -implicitDefEqProofs only [AA,↓reduceIte,Nat.reduceEqDiff]; rw [hgl],by simp -implicitDefEqProofs only [AA,↓reduceIte]; rfl,by rw [List.take_zero,List.nil_append,Nat.sub_zero,hgl]⟩ ?_
   rintro n' F' H' ⟨k,hk,g1,g10,g11,g12,g5,g8,g7,g6,g21,g22,rfl⟩
   simp -implicitDefEqProofs only [CY,List.contains_nil,Nat.reduceBEq,BB,AZ,BI,A8,AY,BC,AL,BD,AX,AC,AA,A7,BQ,AB,CW,↓reduceIte,Option.getD_some,Bool.not_false,enP,Bool.false_eq_true,EH,g21,g22]
   refine CQ (fun hc => ?_) (fun hc => ?_)
   ·have hk':k < g.length:=by simpa using hc
    have hka:k < a[i].l.length:=by omega
    have hkb:k < b[i].l.length:=by omega
    have hw:=ACU G _ _ (H ++ [.live 1 ((g.take k ++ zeros (g.length - k)).map encI)]) (r3 _ (List.getElem_mem hka)) (r4 _ (List.getElem_mem hkb))
    rw [← hgi k hka hkb hk'] at hw
    have hrow:=AQF (g:=g.take k ++ zeros (g.length - k)) (j:=k) (by rw [ARI g k (by omega)]; exact hk')
    simp -implicitDefEqProofs only [CY,List.contains_nil,Nat.reduceBEq,BB,BP,AZ,BN,A8,AY,BC,AL,BD,AX,AC,AA,A7,BF,BA,↓reduceIte,Nat.reduceEqDiff,Option.getD_some,Bool.not_false,Bool.false_eq_true,EH,g22]
    refine ER (by kernel_rfl) ?_
    simp -implicitDefEqProofs only [F7,CY,List.contains_nil,D9,DT,EC,FH,FC,D7,GM,F6,AA,A7,CB,BO,BZ,AB,List.map_cons,List.map_nil,List.append_nil,↓reduceIte,Nat.reduceEqDiff,Nat.reduceAdd,Option.getD_some,enP,QT,JQ,g1,g6,g7,g8,DJ hka,CV ag3 hka,encI0,DJ hb,CV LC hb,NC,DJ hkb,CV ag3 hkb]
    refine ⟨_,hw,?_⟩
    try simp -implicitDefEqProofs only [F7,CY,List.contains_nil,Nat.reduceBEq,D9,DT,MX,E8,EC,MQ,AZ,A8,D8,ED,AY,BC,AL,BD,AX,AC,AA,A7,AU,BH,BF,EI,BQ,AB,DR,CZ,↓reduceIte,Nat.reduceEqDiff,Nat.zero_add,Option.getD_some,Bool.not_false,enP,Option.getD_none,Bool.false_eq_true,EH,g22,TD (CX H _) hk',Nat.zero_add,AS8 (CX H _) hrow,QV,AO0 g k hk',wrap_succ (show k < 9223372036854775807 by omega)]
    exact ⟨n' - 1,by omega,k+1,by omega,g1,g10,g11,g12,g5,g8,g7,g6,g21,rfl,rfl⟩
   ·have hk' : ¬ k < g.length:=by simpa using hc
    obtain rfl:k=g.length:=by omega
    simp -implicitDefEqProofs only [DC,DZ,JM,EP,AA,↓reduceIte,Nat.reduceEqDiff]
    exact ⟨g1,g10,g11,g12,g5,g8,by rw [ARJ]⟩
  ·rintro F' H' ⟨g1,g10,g11,g12,g5,g8,rfl⟩
   have hz:=RZ (H:=H ++ [.live 1 (g.map encI)]) (i:=42) (off:=0) (len:=g.length) (CX H _) (by simp) (by rw [List.drop_zero,List.take_of_length_le (by simp)]; exact AWB g)
   rw [List.drop_zero,List.take_of_length_le (by simp),QV] at hz
   obtain ⟨v',H2,hap,ho',_,he',_,_⟩:=(ho.app [.dead]).append AGZ AC3 AJU AJB (by omega) (by rw [List.length_take]; omega) (he.app [.dead]) ⟨.any,g⟩
   simp -implicitDefEqProofs only [FP,FZ,CY,List.contains_nil,Nat.reduceBEq,AZ,A8,EN,AY,AL,BD,AX,AC,AA,A7,BF,ES,GU,BR,↓reduceIte,Nat.reduceEqDiff,Option.getD_some,Bool.not_false,enP,Bool.false_eq_true,EH,g5,g8,PI,AL,hz,AEV]
   refine F9 (v:=v') (h:=H2) hap ?_
   simp -implicitDefEqProofs only [CY,List.contains_nil,Nat.reduceBEq,AZ,A8,D8,ED,AY,BC,AL,BD,AX,AC,AA,A7,AU,BH,BF,BA,BQ,AB,CZ,↓reduceIte,Nat.reduceEqDiff,Option.getD_some,Bool.not_false,enP,Bool.false_eq_true,EH,g12,wrap_succ (show i < 9223372036854775807 by omega)]
   refine ⟨n - 1,by omega,i+1,by omega,g1,g10,g11,rfl,he',?_⟩
   rw [htk]; exact ho'
 ·have ha : ¬ i < a.length:=by simpa using hc
  rw [List.take_of_length_le (by omega)] at ho
  simp -implicitDefEqProofs only [CY,List.contains_nil,Nat.reduceBEq,BB,AZ,BM,DC,A8,DZ,EN,EP,CU,AY,BC,AL,BD,AX,AC,AA,A7,BF,BA,↓reduceIte,Nat.reduceEqDiff,Option.getD_some,Bool.not_false,Bool.false_eq_true,EH]
  exact ⟨he,ho⟩
end Go.Proofs.YtocilianjfhifaaGreatDoor.Cov
/- Sums of lists of counts, and equality of coverages, on the reference's side; no condition but the bounds on lengths. -/
set_option linter.unusedSimpArgs false
set_option maxRecDepth 8000
namespace Go.Proofs.YtocilianjfhifaaGreatDoor.Cov
open Go Go.Proofs Go.Proofs.YtocilianjfhifaaGreatDoor.Sm Go.Proofs.YtocilianjfhifaaGreatDoor.Bins Go.RowKit

set_option maxHeartbeats 1000000 in
theorem AG4 (G:Nat→AV) (a b:List Is) (s t:SM) (h:Hp) (hs:Sh2 a b):PCall (En G) 87 [.sl s 1 (a.map HY),.sl t 1 (b.map HY)] h (.sl (nm (KL a b)) 1 ((KL a b).map HY)):=by
 refine MS AOT ?_
 have hl:=hs.len
 have hn:=hs.num
 have hsl:=AEY a b hl
 refine CG (H:=hint [42] [(45,[44])]) (enM G) Tryz.func87 rfl (by kernel_rfl) (by kernel_rfl) (Nat.le_of_ble_eq_true (by kernel_rfl)) ?_
 show awp _ _ _ _ _ (EU _ [.tmp 4] _)
 simp -implicitDefEqProofs only [CY,List.contains_cons,List.contains_nil,Nat.reduceBEq,Bool.or_false,BB,BP,AZ,A8,AY,BC,AL,BD,AX,AC,AU,BH,FV,BA,↓reduceIte,Option.getD_some,Bool.not_false,enP,Bool.false_eq_true,EH,List.length_map]
 refine C9 (fun n F H => ∃ i,n+i=a.length∧F 0 = .sl s 1 (a.map HY)∧F 1 = .sl t 1 (b.map HY)∧F 6 = .int .i64 (i:Nat)∧ext h H∧outG 1 HY h ((KL a b).take i) (F 5) H) a.length ⟨0,by simp,by simp -implicitDefEqProofs only [AA,BG,↓reduceIte,Nat.reduceEqDiff],by simp -implicitDefEqProofs only [AA,BG,BV,↓reduceIte,Nat.reduceEqDiff],by simp -implicitDefEqProofs only [AA,↓reduceIte]; rfl,ext.rfl' h,by rw [List.take_zero]; exact outG.nil _ _ _ _⟩ ?_
 rintro n F H ⟨i,hi,f0,f1,f6,he,ho⟩
 simp -implicitDefEqProofs only [CY,List.contains_cons,List.contains_nil,Nat.reduceBEq,Bool.or_false,BB,AZ,BI,A8,AY,BC,AL,BD,AX,AC,AA,A7,BF,BQ,DN,AB,CW,↓reduceIte,Nat.reduceEqDiff,Option.getD_some,Bool.not_false,enP,YF,Bool.false_eq_true,EH,f0,f6,List.length_map]
 refine CQ (fun hc => ?_) (fun hc => ?_)
 ·have ha:i < a.length:=by simpa using hc
  have hb:i < b.length:=by omega
  obtain ⟨r1,r2,r3,r4,r5⟩:=hs.row i ha hb
  have hSi:i < (KL a b).length:=by omega
  have hget:=AEZ a b i ha hb hSi
  have htk:=List.take_succ_eq_append_getElem hSi
  rw [hget] at htk
  have hgl:=AJM _ _ r1
  have hgi:=AJN a[i].l b[i].l
  have hgne:PX a[i].l b[i].l≠[]:=fun e=>r2 (List.eq_nil_of_length_eq_zero (by rw [← hgl,e]; rfl))
  have hadd:X3 a[i] b[i]=⟨.any,PX a[i].l b[i].l⟩:=by unfold X3; rw [AQN hgne]
  rw [hadd] at htk
  generalize PX a[i].l b[i].l=g at hgl hgi hgne htk
  simp -implicitDefEqProofs only [CY,List.contains_cons,List.contains_nil,Nat.reduceBEq,Bool.or_false,BB,BP,AZ,BN,A8,AY,BC,AL,BD,AX,AC,AU,BH,FV,BA,↓reduceIte,Option.getD_some,Bool.not_false,Bool.false_eq_true,EH]
  refine F8 2 (fun F' H'=>F' 0 = .sl s 1 (a.map HY)∧F' 1 = .sl t 1 (b.map HY)∧F' 6 = .int .i64 (i:Nat)∧F' 5=F 5∧ext H H'∧outG 1 encI H g (F' 7) H') (fun _ _=>False) ?_ ?_ (fun _ _ hh=>hh.elim)
  ·refine C9 (fun n F' H' => ∃ k,n+k=g.length∧F' 0 = .sl s 1 (a.map HY)∧F' 1 = .sl t 1 (b.map HY)∧F' 6 = .int .i64 (i:Nat)∧F' 5=F 5∧F' 8 = .int .i64 (k:Nat)∧ext H H'∧outG 1 encI H (g.take k) (F' 7) H') g.length ⟨0,by simp,by simp -implicitDefEqProofs only [AA,↓reduceIte,Nat.reduceEqDiff,f0],by simp -implicitDefEqProofs only [AA,↓reduceIte,Nat.reduceEqDiff,f1],by simp -implicitDefEqProofs only [AA,↓reduceIte,Nat.reduceEqDiff,f6],by simp -implicitDefEqProofs only [AA,↓reduceIte,Nat.reduceEqDiff],by simp -implicitDefEqProofs only [AA,↓reduceIte]; rfl,ext.rfl' H,by rw [List.take_zero]; exact outG.nil _ _ _ _⟩ ?_
   rintro n' F' H' ⟨k,hk,g0,g1,g6,g5,g8,ge,go⟩
   simp -implicitDefEqProofs only [CY,List.contains_cons,List.contains_nil,Nat.reduceBEq,Bool.or_false,BB,AZ,BI,A8,AY,BC,AL,BD,AX,AC,AA,A7,BF,BO,BQ,BZ,DN,AB,CW,↓reduceIte,Nat.reduceEqDiff,Option.getD_some,Bool.not_false,enP,QT,IL,Bool.false_eq_true,EH,g0,g6,g8,DJ ha,CV LC ha,NC,List.length_map]
   refine CQ (fun hc => ?_) (fun hc => ?_)
   ·have hka:k < a[i].l.length:=by simpa using hc
    have hk':k < g.length:=by omega
    have hkb:k < b[i].l.length:=by omega
    have w1:=JW.1 (r3 _ (List.getElem_mem hka))
    have w2:=JW.1 (r4 _ (List.getElem_mem hkb))
    have hw:min (a[i].l[k]+b[i].l[k]) 1099511627776=g[k]:=(hgi k hka hkb hk').symm
    obtain ⟨v',H2,hap,ho',_,he',_,_⟩:=go.append QB sz3 X6 WN (by omega) (by rw [List.length_take]; omega) ge g[k]
    rw [← List.take_succ_eq_append_getElem hk'] at ho'
    simp -implicitDefEqProofs only [BB,BP,BN,A8]
    refine ER (by kernel_rfl) ?_
    simp -implicitDefEqProofs only [F7,FP,FZ,CY,List.contains_cons,List.contains_nil,Nat.reduceBEq,Bool.or_false,D9,DT,EC,FH,KC,FC,IE,D7,GV,AA,A7,AU,BH,ES,BO,BQ,BZ,AGT,GU,BR,AB,CZ,ABC,↓reduceIte,Nat.reduceEqDiff,Nat.reduceAdd,Option.getD_some,enP,QT,JQ,g0,g1,g6,g8,DJ ha,CV LC ha,NC,DJ hka,CV ag3 hka,encI0,DJ hb,CV LC hb,DJ hkb,CV ag3 hkb,wrap_i64 (n:=a[i].l[k]+b[i].l[k]) (by omega) (by omega),hw,ACI]
    refine F9 (v:=v') (h:=H2) hap ?_
    simp -implicitDefEqProofs only [F7,CY,List.contains_cons,List.contains_nil,Nat.reduceBEq,Bool.or_false,D9,DT,E8,EC,IQ,AZ,A8,D8,ED,AY,BC,AL,BD,AX,AC,AA,A7,AU,BH,BF,BA,BQ,AB,CZ,↓reduceIte,Nat.reduceEqDiff,Nat.reduceAdd,Option.getD_some,Bool.not_false,enP,Bool.false_eq_true,EH,g8,wrap_succ (show k < 9223372036854775807 by omega)]
    exact ⟨n' - 1,by omega,k+1,by omega,g0,g1,g6,g5,rfl,he',ho'⟩
   ·have hk' : ¬ k < a[i].l.length:=by simpa using hc
    rw [List.take_of_length_le (by omega)] at go
    simp -implicitDefEqProofs only [DC,DZ,JM,EP,AA,↓reduceIte,Nat.reduceEqDiff]
    exact ⟨g0,g1,g6,g5,ge,go⟩
  ·rintro F' H' ⟨g0,g1,g6,g5,ge,go⟩
   rcases go with ⟨e,_⟩ | ⟨_,o,o1,g7,o3⟩
   ·exact absurd e hgne
   have hz:=RZ (H:=H') (i:=44) (off:=0) (len:=g.length) o3 (by simp) (by rw [List.drop_zero,List.take_of_length_le (by simp)]; exact AWB g)
   rw [List.drop_zero,List.take_of_length_le (by simp)] at hz
   have ho1:outG 1 HY h ((KL a b).take i) (F 5) (H'.set o .dead):=by
    obtain ⟨x,rfl⟩:=ge
    refine ho.keep fun b' hb' => ?_
    have:=ho.lt hb'
    rw [List.getElem?_set_ne (by omega),List.getElem?_append_left this.2]
   have he1:ext h (H'.set o .dead):=(he.trans ge).set (Nat.le_trans he.le o1) _
   obtain ⟨v',H2,hap,ho',_,he',_,_⟩:=ho1.append AGZ AC3 AJU AJB (by omega) (by rw [List.length_take]; omega) he1 ⟨.any,g⟩
   simp -implicitDefEqProofs only [FP,FZ,CY,List.contains_cons,List.contains_nil,Nat.reduceBEq,Bool.or_false,AZ,A8,EN,AY,AL,BD,AX,AC,AA,A7,BF,ES,GU,BR,↓reduceIte,Nat.reduceEqDiff,Option.getD_some,Bool.not_false,enP,Bool.false_eq_true,EH,g5,g7,PI,AL,hz,AEV]
   refine F9 (v:=v') (h:=H2) hap ?_
   simp -implicitDefEqProofs only [CY,List.contains_cons,List.contains_nil,Nat.reduceBEq,Bool.or_false,AZ,A8,D8,ED,AY,BC,AL,BD,AX,AC,AA,A7,AU,BH,BF,BA,BQ,AB,CZ,↓reduceIte,Nat.reduceEqDiff,Option.getD_some,Bool.not_false,enP,Bool.false_eq_true,EH,g6,wrap_succ (show i < 9223372036854775807 by omega)]
   refine ⟨n - 1,by omega,i+1,by omega,g0,g1,rfl,he',?_⟩
   rw [htk]; exact ho'
 ·have ha : ¬ i < a.length:=by simpa using hc
  rw [List.take_of_length_le (by omega)] at ho
  simp -implicitDefEqProofs only [CY,List.contains_cons,List.contains_nil,Nat.reduceBEq,Bool.or_false,BB,AZ,BM,DC,A8,DZ,EN,EP,CU,AY,BC,AL,BD,AX,AC,AA,A7,BF,BA,↓reduceIte,Nat.reduceEqDiff,Option.getD_some,Bool.not_false,Bool.false_eq_true,EH]
  exact ⟨he,ho⟩
/-- two coverages in two blocks -/
structure VV (h H:Hp) (a b:Cvr) (bb:Nat):Prop where
 ga:H[h.length]? = some (.live 4 [EF a])
 gb:H[bb]? = some (.live 4 [EF b])
 hx : ∃ x,H=h ++ x
theorem VV.mk' (h:Hp) (a b:Cvr):VV h (h ++ [.live 4 [EF a]] ++ [.live 4 [EF b]]) a b (h ++ [ABlk.live 4 [EF a]]).length:=⟨DL (CX _ _),CX _ _,⟨_,List.append_assoc _ _ _⟩⟩
section
variable {H:Hp} {v:Cvr} {vb:Nat} (gv:H[vb]? = some (.live 4 [EF v]))
include gv
theorem lv0:EE Tryz.prog H 26 (.ptr vb 0 0)=some (.sl v.pm 1 (v.pts.map HY)):=by rw [D6 SH gv (row:=EF v) rfl,AIR]
theorem lv1:EE Tryz.prog H 26 (.ptr vb 0 1)=some (.sl v.cm 1 (v.crs.map HY)):=by rw [D6 SH gv (row:=EF v) rfl,AIQ]
theorem lv2:EE Tryz.prog H 3 (.ptr vb 0 2)=some (.int .i64 v.sam):=by rw [D6 ag3 gv (row:=EF v) rfl,ARU]
theorem lv3:EE Tryz.prog H 3 (.ptr vb 0 3)=some (.int .i64 v.ill):=by rw [D6 ag3 gv (row:=EF v) rfl,ART]
end
end Go.Proofs.YtocilianjfhifaaGreatDoor.Cov
/- Small things on heaps, results in cells, two lists that grow side by side; no condition. -/
namespace Go.Proofs.YtocilianjfhifaaGreatDoor.Cov
open Go Go.Proofs Go.Proofs.YtocilianjfhifaaGreatDoor.Sm Go.Proofs.YtocilianjfhifaaGreatDoor.Bins Go.RowKit

theorem AB6 {P:Program} {a t:Nat} {R:AV→Hp→Prop} {F:Fr} {h:Hp} {x:AV} {b:Nat} (hF:F a = .ptr b 0 0) (h1:EE P h t (.ptr b 0 0)=some x):EU P [.cell a t] R .ret F h=R x h:=by simp [EU,ZU,SG,hF,h1]
theorem AXV {P:Program} {a t b u:Nat} {R:AV→Hp→Prop} {F:Fr} {h:Hp} {x y:AV} {ba bb:Nat} (hF:F a = .ptr ba 0 0) (hG:F b = .ptr bb 0 0) (h1:EE P h t (.ptr ba 0 0)=some x) (h2:EE P h u (.ptr bb 0 0)=some y):EU P [.cell a t,.cell b u] R .ret F h=R (.tup [x,y]) h:=by simp [EU,ZU,QN,SG,hF,hG,h1,h2]
theorem AAJ {P:Program} {a t b u c:Nat} {R:AV→Hp→Prop} {F:Fr} {h:Hp} {x y:AV} {ba bb:Nat} (hF:F a = .ptr ba 0 0) (hG:F b = .ptr bb 0 0) (h1:EE P h t (.ptr ba 0 0)=some x) (h2:EE P h u (.ptr bb 0 0)=some y):EU P [.cell a t,.cell b u,.tmp c] R .ret F h=R (.tup [x,y,F c]) h:=by simp [EU,ZU,QN,SG,hF,hG,h1,h2]
theorem O6 {P:Program} {a t c:Nat} {R:AV→Hp→Prop} {F:Fr} {h:Hp} {x:AV} {ba:Nat} (hF:F a = .ptr ba 0 0) (h1:EE P h t (.ptr ba 0 0)=some x):EU P [.cell a t,.tmp c] R .ret F h=R (.tup [x,F c]) h:=by simp [EU,ZU,QN,SG,hF,h1]
/-- what a growing list is frozen to -/
def fzG {α:Type} (k:Nat) (f:α→List AV) (ys:List α):AV:=match ys with
 | [] => .sl .nil 0 []
 | _ => .sl .any k (ys.map f)
theorem QH {α:Type} {k:Nat} {f:α→List AV} {h H:Hp} {ys:List α} {v:AV} (hf:Frz f) (ho:outG k f h ys v H) (n d:Nat) (hn:n≤h.length):JF n H (d+2) v=fzG k f ys:=by
 rcases ho with ⟨rfl,rfl⟩ | ⟨hne,o,h2,rfl,h3⟩
 ·rfl
 ·rw [XI hf (Nat.le_trans hn h2) h3]
  cases ys with
  | nil=>exact absurd rfl hne
  | cons _ _=>rfl
theorem WG {α:Type} {k:Nat} {f:α→List AV} {ys:List α}:CvR (fzG k f ys) (.sl (nm ys) k (ys.map f)):=by
 cases ys with
 | nil=>exact CvR.sl (Cv.nil 0 k)
 | cons y ys=>exact CvR.refl _
/-- appending, whatever lies below -/
theorem outG.app2 {P:Program} {t e:TypeId} {α:Type} {k bs:Nat} {f:α→List AV} {h H:Hp} {ys:List α} {v:AV} (ho:outG k f h ys v H) (hu:P.underlying t=some (.slice e)) (hs:szO P e=some k) (hz:QQ P e=some k) (hb:LD P e=some bs) (hbs:bs≤4194304) (hl:ys.length < 8388608) (he:h.length≤H.length) (y:α) :
  ∃ v' H',G5 P true H t t v (.sl .full k [f y])=some (v',H')∧outG k f h (ys ++ [y]) v' H'∧(∀ b x,H[b]? = some x→¬ isB v b→H'[b]? = some x)∧H'.length=H.length+1∧(∀ b,isB v' b→b=H.length)∧(∃ o l,v' = .own o 0 l)∧∀ e:Hp,e.length≤h.length→ext e H→ext e H':=by
 have h1:([f y]:List (List AV))≠[]:=by simp
 rcases ho with ⟨rfl,rfl⟩ | ⟨hne,o,h2,rfl,h3⟩
 ·exact ⟨_,_,XY hu hs hz hb (KX H .full k [f y]) h1 (KO (by simp) hbs),.inr ⟨by simp,H.length,he,rfl,by simp⟩,fun b x hb _=>IW hb,by simp,fun b hb=>hb.symm,⟨_,_,rfl⟩,fun e _ hx=>hx.app _⟩
 ·have hc:KA H (.own o 0 ys.length)=some (k,ys.map f):=by
   rw [P8 h3 (by simp),List.drop_zero,List.take_of_length_le (by simp)]
  refine ⟨_,_,AAL hu hs hz hb hc (KX H .full k [f y]) h1 (KO (by simp; omega) hbs),.inr ⟨by simp,H.length,he,by simp,by simp⟩,fun b x hb hn => ?_,by simp,fun b hb=>hb.symm,⟨_,_,rfl⟩,fun e hl hx=>(hx.set (Nat.le_trans hl h2) _).app _⟩
  have hn' : ¬ o=b:=hn
  refine IW ?_
  rw [List.getElem?_set,if_neg hn']; exact hb
/-- a variable of one row is written -/
theorem PD {P:Program} {H:Hp} {t b k j:Nat} {row cs:List AV} {v:AV} (hc:JK v=some cs) (hs:szO P t=some cs.length) (hb:H[b]? = some (.live k [row])) (hl:j+cs.length≤row.length):GG P H t (.ptr b 0 j) v=some (H.set b (.live k [splice row j cs])):=by
 rw [MH (i:=0) hc hs hb rfl hl]; rfl
theorem mkF (h:Hp) (n:Nat) (hn:n≤1048576):JD Tryz.prog false h 57 (.int .i64 (n:Int)) (.int .i64 (n:Int))=some (.sl .full 1 ((zeros n).map encI),h):=by
 have hz:NM Tryz.prog 3=some [.int .i64 0]:=by kernel_rfl
 have hr:room n 8:=KO (by omega) (by omega)
 unfold JD
 simp only [QB,sz3,WN,hz,Int.toNat_natCast]
 rw [if_pos ⟨by omega,Int.le_refl _,hr,rfl⟩]
 simp [zeros,encI]
/-- a track -/
structure Tk where
 m:SM
 last:List Is
def OL (t:Tk):List AV := [.sl t.m 1 (t.last.map HY)]
theorem AIS (t:Tk):(OL t).length=1:=rfl
def zT:Tk:=⟨.nil,[]⟩
def zV:Cvr:=⟨.nil,[],.nil,[],0,0⟩
def zLs (m:Mo):List Is:=m.pts.map fun _=>⟨.nil,[]⟩
def JP:List AV := [.sl .nil 0 []]
theorem AXL {α:Type}:Frz (fun _:α=>JP):=fun _ _ _ _=>⟨rfl,rfl⟩
theorem ATU:CvRow JP (HY ⟨.nil,[]⟩):=CvRow.cons rfl (Cv.nil 0 1) CvRow.nil
theorem AMD {α:Type} {s:SM} (xs:List α):Cv (.sl s 1 (xs.map fun _=>JP)) (.sl s 1 ((xs.map fun _=>(⟨.nil,[]⟩:Is)).map HY)):=by
 rw [List.map_map]
 exact Cv.map fun _ _=>ATU
theorem APW:CvR (.agg [.sl .nil 0 [],.sl .nil 0 [],.int .i64 0,.int .i64 0]) (.agg (EF zV)):=CvR.agg (CvRL.cons (CvR.sl (Cv.nil 0 1)) (CvRL.cons (CvR.sl (Cv.nil 0 1)) (CvRL.cons (CvR.refl _) (CvRL.cons (CvR.refl _) CvRL.nil))))
theorem AYI:CvR (.agg [.sl .nil 0 []]) (.agg (OL zT)):=CvR.agg (CvRL.cons (CvR.sl (Cv.nil 0 1)) CvRL.nil)
def GI:List AV := [.sl .nil 0 [],.sl .nil 0 [],.int .i64 0,.int .i64 0]
theorem MF (h:Hp):KD Tryz.prog h 28=some (.ptr h.length 0 0,h ++ [.live 4 [GI]]):=JY (row:=GI) (by kernel_rfl)
theorem ADQ (h:Hp):KD Tryz.prog h 47=some (.ptr h.length 0 0,h ++ [.live 1 [JP]]):=JY (row:=JP) (by kernel_rfl)
theorem VZ:KN Tryz.prog 28 []=some (.agg GI):=by kernel_rfl
theorem AWP:KN Tryz.prog 47 []=some (.agg JP):=by kernel_rfl
theorem stV {H:Hp} {b:Nat} {row:List AV} {v:Cvr} (hb:H[b]? = some (.live 4 [row])) (hr:row.length=4):GG Tryz.prog H 28 (.ptr b 0 0) (.agg (EF v))=some (H.set b (.live 4 [EF v])):=by
 rw [PD (cs:=EF v) rfl TS hb (by rw [hr]; exact Nat.le_refl 4)]
 have:splice row 0 (EF v)=EF v:=by unfold splice; simp [MC,hr]
 rw [this]
theorem stZ {H:Hp} {b:Nat} {row:List AV} (hb:H[b]? = some (.live 4 [row])) (hr:row.length=4):GG Tryz.prog H 28 (.ptr b 0 0) (.agg GI)=some (H.set b (.live 4 [GI])):=by
 rw [PD (cs:=GI) rfl TS hb (by rw [hr]; exact Nat.le_refl 4)]
 have:splice row 0 GI=GI:=by unfold splice; simp [GI,hr]
 rw [this]
theorem stT {H:Hp} {b:Nat} {row:List AV} {t:Tk} (hb:H[b]? = some (.live 1 [row])) (hr:row.length=1):GG Tryz.prog H 47 (.ptr b 0 0) (.agg (OL t))=some (H.set b (.live 1 [OL t])):=by
 rw [PD (cs:=OL t) rfl AP3 hb (by rw [hr]; exact Nat.le_refl 1)]
 have:splice row 0 (OL t)=OL t:=by unfold splice; rw [AIS,List.take_zero,List.drop_eq_nil_of_le (by omega)]; simp
 rw [this]
theorem AVW {H:Hp} {b:Nat} {row:List AV} (hb:H[b]? = some (.live 1 [row])) (hr:row.length=1):GG Tryz.prog H 47 (.ptr b 0 0) (.agg JP)=some (H.set b (.live 1 [JP])):=by
 rw [PD (cs:=JP) rfl AP3 hb (by rw [hr]; exact Nat.le_refl 1)]
 have:splice row 0 JP=JP:=by unfold splice; rw [List.take_zero,List.drop_eq_nil_of_le (by rw [hr]; exact Nat.le_refl 1)]; simp
 rw [this]
theorem ldT {h:Hp} {b:Nat} {t:Tk} (hb:h[b]? = some (.live 1 [OL t])):EE Tryz.prog h 47 (.ptr b 0 0)=some (.agg (OL t)):=by
 rw [JE AZZ AP3 hb rfl (by rw [AIS]; exact Nat.le_refl 1)]; rfl
theorem MV {h:Hp} {b:Nat} {row:List AV} (hb:h[b]? = some (.live 4 [row])) (hr:row.length=4):EE Tryz.prog h 28 (.ptr b 0 0)=some (.agg row):=by
 rw [JE ACR TS hb rfl (by rw [hr]; exact Nat.le_refl 4),List.drop_zero,List.take_of_length_le (by omega)]
theorem XC {h:Hp} {b:Nat} {row:List AV} (hb:h[b]? = some (.live 1 [row])) (hr:row.length=1):EE Tryz.prog h 47 (.ptr b 0 0)=some (.agg row):=by
 rw [JE AZZ AP3 hb rfl (by rw [hr]; exact Nat.le_refl 1),List.drop_zero,List.take_of_length_le (by omega)]
end Go.Proofs.YtocilianjfhifaaGreatDoor.Cov
/- Merging coverages: what Merge and All give, and what the measures say of sums; no condition. -/
namespace Go.Proofs.YtocilianjfhifaaGreatDoor.Cov
open Go Go.Proofs Go.Proofs.YtocilianjfhifaaGreatDoor.Sm Go.Proofs.YtocilianjfhifaaGreatDoor.Bins Go.RowKit

theorem AN8 {ns:List Nat} (h : ∀ n∈ns,1≤n):1≤FY ns:=AA7 ns 0 h
/-- what fits is of moderate size -/
theorem AFZ {α:Type} {ok:α→Is→Bool} : ∀ {ws:List α} {xs:List Is},KQ ok ws xs=true→∀ x∈xs,∃ a∈ws,ok a x=true
 | [],[],_,x,hx=>by cases hx
 | a :: ws,y :: xs,h,x,hx=>by
   simp only [KQ,Bool.and_eq_true] at h
   rcases List.mem_cons.1 hx with rfl | hx
   ·exact ⟨a,by simp,h.1⟩
   ·obtain ⟨b,hb,hk⟩:=AFZ h.2 x hx
    exact ⟨b,by simp [hb],hk⟩
 | [],_ :: _,h,_,_=>by cases h
 | _ :: _,[],h,_,_=>by cases h
theorem AFD {m:Mo} {v:Cvr} (h:FN m v=true):v.pts.length=m.pts.length∧v.crs.length=m.crs.length∧(∀ x∈v.pts,1≤x.l.length∧x.l.length≤64)∧(∀ x∈v.crs,1≤x.l.length∧x.l.length≤256):=by
 have hg:=J4 (L9 h)
 rw [JG] at h
 obtain ⟨_,h2,h3,_,_⟩:=h
 refine ⟨(OB h2).symm,(OB h3).symm,fun x hx => ?_,fun x hx => ?_⟩
 ·obtain ⟨p,hp,hk⟩:=AFZ h2 x hx
  have:=hg.full p hp
  rw [AMB hk]; exact this
 ·obtain ⟨c,hc,hk⟩:=AFZ h3 x hx
  have hcg:=hg.crs c hc
  have hs:=hg.full.szs hcg.here
  rw [AMC hk]
  exact ⟨AN8 fun n hn=>(hs n hn).1,hcg.prod⟩
theorem VG {m:Mo} {v:Cvr} (h:FN m v=true):CvOk v:=by
 have hn:=(J4 (L9 h)).num
 obtain ⟨h1,h2,h3,h4⟩:=AFD h
 exact ⟨by omega,by omega,fun x hx=>by have:=h3 x hx; omega,fun x hx=>by have:=h4 x hx; omega⟩
theorem AQA {α:Type} {ok:α→Is→Bool} {n:α→Nat} (hok : ∀ a x,ok a x=true→x.l.length=n a∧WL x.l) {ws:List α} {a b:List Is} (ha:KQ ok ws a=true) (hb:KQ ok ws b=true) (hr : ∀ x∈a,1≤x.l.length∧x.l.length≤256) (hl:a.length≤1048576):Sh2 a b:=by
 have h1:=OB ha
 have h2:=OB hb
 refine ⟨by omega,fun i hi hj => ?_,hl⟩
 have hw:i < ws.length:=by omega
 obtain ⟨x,hx,kx⟩:=QI ha i ws[i] (List.getElem?_eq_getElem hw)
 obtain ⟨y,hy,ky⟩:=QI hb i ws[i] (List.getElem?_eq_getElem hw)
 rw [List.getElem?_eq_getElem hi] at hx
 rw [List.getElem?_eq_getElem hj] at hy
 cases hx; cases hy
 have q:=hr _ (List.getElem_mem hi)
 refine ⟨by rw [(hok _ _ kx).1,(hok _ _ ky).1],fun e => ?_,(hok _ _ kx).2,(hok _ _ ky).2,by omega⟩
 rw [e] at q; simp at q
theorem AL1 {m:Mo} {a b:Cvr} (ha:FN m a=true) (hb:FN m b=true):Sh2 a.pts b.pts:=by
 have hr:=AFD ha
 have hn:=(J4 (L9 ha)).num
 exact AQA (n:=fun p:Pt=>p.bins.length) (fun _ _ h=>⟨AMB h,AA9 h⟩) (JG.1 ha).2.1 (JG.1 hb).2.1 (fun x hx=>by have:=hr.2.2.1 x hx; omega) (by omega)
theorem AL2 {m:Mo} {a b:Cvr} (ha:FN m a=true) (hb:FN m b=true):Sh2 a.crs b.crs:=by
 have hr:=AFD ha
 have hn:=(J4 (L9 ha)).num
 exact AQA (n:=fun c:Cr=>FY (szs m c.pts)) (fun _ _ h=>⟨AMC h,ABA h⟩) (JG.1 ha).2.2.1 (JG.1 hb).2.2.1 (fun x hx=>hr.2.2.2 x hx) (by omega)
/-- what All gives -/
def ASN (m:Mo) (l:List Cvr):Cvr:=l.foldl O1 (J6 m)
def PN (m:Mo) (l:List Cvr):Int:=if FU m=0 then (if l.all (FN m)=true then 0 else 1) else FU m
def N7 (m:Mo) (l:List Cvr):Cvr:=if PN m l=0 then ASN m l else zV
theorem P9 {m:Mo} {l:List Cvr}:PN m l=0↔FU m=0∧∀ v∈l,FN m v=true:=by
 unfold PN
 split
 ·rename_i h
  split
  ·rename_i h2
   exact ⟨fun _=>⟨h,List.all_eq_true.1 h2⟩,fun _=>rfl⟩
  ·rename_i h2
   exact ⟨fun e=>by omega,fun e=>absurd (List.all_eq_true.2 e.2) h2⟩
 ·rename_i h
  exact ⟨fun e=>absurd e h,fun e=>absurd e.1 h⟩
theorem VD {m:Mo} : ∀ (l:List Cvr) (c:Cvr),FN m c=true→(∀ v∈l,FN m v=true)→FN m (l.foldl O1 c)=true
 | [],_,h,_=>h
 | v :: l,c,h,hl=>VD l (O1 c v) (AEH h (hl v (by simp))) fun w hw=>hl w (by simp [hw])
theorem AEW {m:Mo} {l:List Cvr} (h:PN m l=0):FN m (N7 m l)=true:=by
 have:=P9.1 h
 unfold N7
 rw [if_pos h]
 exact VD l _ (NY this.1) this.2
/-- what the reference's Merge gives -/
def AOJ (m:Mo) (a b:Cvr):Cvr:=if PN m [a,b]=0 then O1 a b else zV
theorem AJJ {m:Mo} {a b:Cvr} (ha:FN m a=true) (hb:FN m b=true):PN m [a,b]=0:=P9.2 ⟨L9 ha,fun v hv=>by
 simp at hv; rcases hv with rfl | rfl <;> assumption⟩
/- counts of goals -/
def AET (l:List (List Int)) (i k:Nat):Int:=match l[i]? with
 | some x=>(match x[k]? with | some z=>z | none=>0)
 | none=>0
theorem NK (l:List Is) (i k:Nat):cellAt l i k=AET (l.map (·.l)) i k:=by
 unfold cellAt AET
 rw [List.getElem?_map]
 cases l[i]? <;> rfl
theorem AES {a b:List (List Int)} {i k:Nat} (ha : ∃ x z,a[i]? = some x∧x[k]? = some z) (hb : ∃ x z,b[i]? = some x∧x[k]? = some z):AET (X0 a b) i k=UY (AET a i k) (AET b i k):=by
 obtain ⟨x,z,h1,h2⟩:=ha
 obtain ⟨y,u,k1,k2⟩:=hb
 have e1:(X0 a b)[i]? = some (PX x y):=by unfold X0; rw [List.getElem?_zipWith,h1,k1]
 have e2:(PX x y)[k]? = some (UY z u):=by unfold PX; rw [List.getElem?_zipWith,h2,k2]
 unfold AET
 simp only [e1,e2,h1,h2,k1,k2]
theorem Z9 {l:List Is} {i k:Nat} (h:InL l i k) : ∃ x z,(l.map (·.l))[i]? = some x∧x[k]? = some z:=by
 obtain ⟨hi,hk⟩:=h
 exact ⟨l[i].l,l[i].l[k],by rw [List.getElem?_map,List.getElem?_eq_getElem hi]; rfl,List.getElem?_eq_getElem hk⟩
theorem AK6 {a b:Cvr} (h:XU a=XU b) (g:Gl):G8 a g=G8 b g:=by
 unfold XU at h
 simp only [Dat.mk.injEq] at h
 unfold G8
 rw [NK,NK,NK,NK,h.1,h.2.1]
theorem ABN {l:List Is} (hw : ∀ x∈l,WL x.l) {i k:Nat} (h:InL l i k):IB (cellAt l i k)=true:=by
 obtain ⟨hi,hk,e⟩:=SC h
 rw [e]
 exact hw _ (List.getElem_mem hi) _ (List.getElem_mem hk)
theorem VX {m:Mo} {v:Cvr} (hf:FN m v=true) {g:Gl} (hg:g∈goals m):IB (G8 v g)=true:=by
 have hi:=WF hf hg
 rw [JG] at hf
 obtain ⟨_,h2,h3,_,_⟩:=hf
 unfold InR at hi
 unfold G8
 split
 ·rename_i hc
  rw [if_pos hc] at hi
  exact ABN (AB0 (ok:=okC m) (fun _ _ h=>ABA h) h3) hi
 ·rename_i hc
  rw [if_neg hc] at hi
  exact ABN (AB0 (ok:=okP) (fun _ _ h=>AA9 h) h2) hi
theorem AK7 {m:Mo} {a b c:Cvr} (ha:FN m a=true) (hb:FN m b=true) (hc:XU c=AST (XU a) (XU b)) {g:Gl} (hg:g∈goals m):G8 c g=UY (G8 a g) (G8 b g):=by
 rw [AK6 (b:=O1 a b) (by rw [hc,ACB])]
 have h1:=WF ha hg
 have h2:=WF hb hg
 have e:=ACB a b
 unfold XU AST at e
 simp only [Dat.mk.injEq] at e
 unfold InR at h1 h2
 unfold G8
 split
 ·rename_i hx
  rw [if_pos hx] at h1 h2
  rw [NK,e.2.1,AES (Z9 h1) (Z9 h2),← NK,← NK]
 ·rename_i hx
  rw [if_neg hx] at h1 h2
  rw [NK,e.1,AES (Z9 h1) (Z9 h2),← NK,← NK]
theorem AR4 {m:Mo} {a b c:Cvr} (ha:FN m a=true) (hb:FN m b=true) (hc:XU c=AST (XU a) (XU b)) {g:Gl} (hg:g∈goals m):decide (G8 c g > 0)=(decide (G8 a g > 0) || decide (G8 b g > 0)):=by
 rw [AK7 ha hb hc hg,ASS (VX ha hg) (VX hb hg)]
theorem AO8 {α:Type} (p q:α→Bool) (l:List α):l.countP (fun x=>p x || q x)=l.countP p+l.countP (fun x=>q x && !p x):=by
 induction l with
 | nil=>rfl
 | cons x l ih =>
   simp only [List.countP_cons,ih]
   cases p x <;> cases q x <;> simp <;> omega
end Go.Proofs.YtocilianjfhifaaGreatDoor.Cov
/- The coverage without samples: the program; no condition but the bounds on lengths. -/
set_option linter.unusedSimpArgs false
set_option maxRecDepth 8000
namespace Go.Proofs.YtocilianjfhifaaGreatDoor.Cov
open Go Go.Proofs Go.Proofs.YtocilianjfhifaaGreatDoor.Sm Go.Proofs.YtocilianjfhifaaGreatDoor.Bins Go.RowKit

theorem outG.setB {α:Type} {k:Nat} {f:α→List AV} {h H:Hp} {ys:List α} {v:AV} {b:Nat} (ho:outG k f h ys v H) (hb:b < h.length) (y:ABlk):outG k f h ys v (H.set b y) :=
 ho.keep fun b' hb'=>by
  have:=ho.lt hb'
  rw [List.getElem?_set_ne (by omega)]
theorem outG.keepA {α:Type} {k:Nat} {f:α→List AV} {h H H':Hp} {ys:List α} {v u:AV} (ho:outG k f h ys v H) (hk : ∀ b x,H[b]? = some x→¬ isB u b→H'[b]? = some x) (hd : ∀ b,isB v b→¬ isB u b):outG k f h ys v H':=by
 rcases ho with h1 | ⟨h1,o,h2,rfl,h3⟩
 ·exact .inl h1
 ·exact .inr ⟨h1,o,h2,rfl,hk _ _ h3 (hd o rfl)⟩
theorem outG.leaf {α:Type} {k:Nat} {f:α→List AV} {h H:Hp} {ys:List α} {v:AV} (ho:outG k f h ys v H):v.leaf=true:=by
 rcases ho with ⟨_,rfl⟩ | ⟨_,o,_,rfl,_⟩ <;> rfl
theorem outG.base {α:Type} {k:Nat} {f:α→List AV} {h h' H:Hp} {ys:List α} {v:AV} (ho:outG k f h ys v H) (hl:h'.length≤h.length):outG k f h' ys v H:=by
 rcases ho with h1 | ⟨h1,o,h2,rfl,h3⟩
 ·exact .inl h1
 ·exact .inr ⟨h1,o,Nat.le_trans hl h2,rfl,h3⟩
def LH (v1 v2:AV):List AV := [v1,v2,.int .i64 0,.int .i64 0]
structure Em (h H:Hp) (m:Mo) (b2 b3 b4 b5:Nat) (v1 v2 v3:AV):Prop where
 gm:H[h.length]? = some (.live 2 [DU m])
 g2:H[b2]? = some (.live 4 [GI])
 g3:H[b3]? = some (.live 1 [JP])
 g4:H[b4]? = some (.live 4 [LH v1 v2])
 g5:H[b5]? = some (.live 1 [[v3]])
 o2:h.length < b2
 o3:b2 < b3
 o4:b3 < b4
 o5:b4 < b5
 hx:ext h H
section
variable {h H:Hp} {m:Mo} {b2 b3 b4 b5:Nat} {v1 v2 v3:AV} (E:Em h H m b2 b3 b4 b5 v1 v2 v3)
include E
theorem Em.m0:EE Tryz.prog H 22 (.ptr h.length 0 0)=some (.sl m.pm 6 (m.pts.map IM)):=by rw [D6 VN E.gm (row:=DU m) rfl,QK]
theorem Em.m1:EE Tryz.prog H 23 (.ptr h.length 0 1)=some (.sl m.cm 3 (m.crs.map H6)):=by rw [D6 YV E.gm (row:=DU m) rfl,TP]
theorem Em.l4:EE Tryz.prog H 26 (.ptr b4 0 0)=some v1:=by rw [D6 SH E.g4 (row:=LH v1 v2) rfl]; rfl
theorem Em.l4':EE Tryz.prog H 26 (.ptr b4 0 1)=some v2:=by rw [D6 SH E.g4 (row:=LH v1 v2) rfl]; rfl
theorem Em.l5:EE Tryz.prog H 26 (.ptr b5 0 0)=some v3:=by rw [D6 SH E.g5 (row := [v3]) rfl]; rfl
theorem Em.app (x:Hp):Em h (H ++ x) m b2 b3 b4 b5 v1 v2 v3:=⟨IW E.gm,IW E.g2,IW E.g3,IW E.g4,IW E.g5,E.o2,E.o3,E.o4,E.o5,E.hx.app _⟩
theorem Em.keep {H':Hp} {u:AV} (hk : ∀ b x,H[b]? = some x→¬ isB u b→H'[b]? = some x) (hu : ∀ b,isB u b→b5 < b) (hx:ext h H→ext h H'):Em h H' m b2 b3 b4 b5 v1 v2 v3:=by
 have o2:=E.o2; have o3:=E.o3; have o4:=E.o4; have o5:=E.o5
 exact ⟨hk _ _ E.gm (fun e=>by have:=hu _ e; omega),hk _ _ E.g2 (fun e=>by have:=hu _ e; omega),hk _ _ E.g3 (fun e=>by have:=hu _ e; omega),hk _ _ E.g4 (fun e=>by have:=hu _ e; omega),hk _ _ E.g5 (fun e=>by have:=hu _ e; omega),o2,o3,o4,o5,hx E.hx⟩
theorem Em.set4 (w1 w2:AV):Em h (H.set b4 (.live 4 [LH w1 w2])) m b2 b3 b4 b5 w1 w2 v3:=by
 have o2:=E.o2; have o3:=E.o3; have o4:=E.o4; have o5:=E.o5
 exact ⟨EX E.gm (by omega),EX E.g2 (by omega),EX E.g3 (by omega),EM E.g4,EX E.g5 (by omega),o2,o3,o4,o5,E.hx.set (by omega) _⟩
theorem Em.set5 (w3:AV):Em h (H.set b5 (.live 1 [[w3]])) m b2 b3 b4 b5 v1 v2 w3:=by
 have o2:=E.o2; have o3:=E.o3; have o4:=E.o4; have o5:=E.o5
 exact ⟨EX E.gm (by omega),EX E.g2 (by omega),EX E.g3 (by omega),EX E.g4 (by omega),EM E.g5,o2,o3,o4,o5,E.hx.set (by omega) _⟩
theorem Em.s4 {o l:Nat}:GG Tryz.prog H 26 (.ptr b4 0 0) (.own o 0 l)=some (H.set b4 (.live 4 [LH (.own o 0 l) v2])):=PD (row:=LH v1 v2) (ACV _ _ _) AP4 E.g4 (by simp [LH])
theorem Em.s4' {o l:Nat}:GG Tryz.prog H 26 (.ptr b4 0 1) (.own o 0 l)=some (H.set b4 (.live 4 [LH v1 (.own o 0 l)])):=PD (row:=LH v1 v2) (ACV _ _ _) AP4 E.g4 (by simp [LH])
theorem Em.s5 {o l:Nat}:GG Tryz.prog H 26 (.ptr b5 0 0) (.own o 0 l)=some (H.set b5 (.live 1 [[.own o 0 l]])):=PD (row := [v3]) (ACV _ _ _) AP4 E.g5 (by simp)
theorem Em.lt:b5 < H.length:=CJ E.g5
end
theorem Em.mk' (h:Hp) (m:Mo):Em h (h ++ [ABlk.live 2 [DU m]] ++ [ABlk.live 4 [GI]] ++ [ABlk.live 1 [JP]] ++ [ABlk.live 4 [GI]] ++ [ABlk.live 1 [JP]]) m (h ++ [ABlk.live 2 [DU m]]).length (h ++ [ABlk.live 2 [DU m]] ++ [ABlk.live 4 [GI]]).length
  (h ++ [ABlk.live 2 [DU m]] ++ [ABlk.live 4 [GI]] ++ [ABlk.live 1 [JP]]).length (h ++ [ABlk.live 2 [DU m]] ++ [ABlk.live 4 [GI]] ++ [ABlk.live 1 [JP]] ++ [ABlk.live 4 [GI]]).length (.sl .nil 0 []) (.sl .nil 0 []) (.sl .nil 0 []) :=
 ⟨DL (DL (DL (DL (CX _ _)))),DL (DL (DL (CX _ _))),DL (DL (CX _ _)),DL (CX _ _),CX _ _,by simp,by simp,by simp,by simp,((((ext.rfl' h).app _).app _).app _).app _ |>.app _⟩
theorem AZI (h:Hp):FO Tryz.prog false h 26 1 [(0,.sl .nil 0 [])]=some (.sl .full 1 [JP],h):=by kernel_rfl
theorem AGR (m:Mo) (i:Nat) (hi:i < m.pts.length):(zPs m).take (i+1)=(zPs m).take i ++ [zIs m.pts[i].bins.length]:=by
 have hl:i < (zPs m).length:=by unfold zPs; simpa using hi
 rw [List.take_succ_eq_append_getElem hl]; simp [zPs]
theorem AGS (m:Mo) (i:Nat) (hi:i < m.crs.length):(zCs m).take (i+1)=(zCs m).take i ++ [zIs (FY (szs m m.crs[i].pts))]:=by
 have hl:i < (zCs m).length:=by unfold zCs; simpa using hi
 rw [List.take_succ_eq_append_getElem hl]; simp [zCs]
theorem ZV (m:Mo):(zPs m).length=m.pts.length:=by simp [zPs]
theorem ZW (m:Mo):(zCs m).length=m.crs.length:=by simp [zCs]
/-- what an empty coverage and track are frozen to -/
theorem AK0 {E:Env} {f:FuncId} {args:List AV} {h:Hp} {m:Mo} (hc:ACalls E f args h fun v H=>ext h H∧∃ v1 v2 v3,v = .tup [.agg (LH v1 v2),.agg [v3]]∧outG 1 HY h (zPs m) v1 H∧outG 1 HY h (zCs m) v2 H∧outG 1 (fun _:Pt=>JP) h m.pts v3 H) :
  PCall E f args h (.tup [.agg (EF (J6 m)),.agg (OL ⟨nm (zLs m),zLs m⟩)]):=by
 have hp:PCall E f args h (.tup [.agg (LH (fzG 1 HY (zPs m)) (fzG 1 HY (zCs m))),.agg [fzG 1 (fun _:Pt=>JP) m.pts]]):=by
  refine ACalls.pure 4 hc ?_
  rintro v H ⟨he,v1,v2,v3,rfl,o1,o2,o3⟩
  refine ⟨he,?_⟩
  have e1:=QH AOT o1 h.length 0 (Nat.le_refl _)
  have e2:=QH AOT o2 h.length 0 (Nat.le_refl _)
  have e3:=QH AXL o3 h.length 0 (Nat.le_refl _)
  show AV.tup [.agg [JF h.length H 2 v1,JF h.length H 2 v2,.int .i64 0,.int .i64 0],.agg [JF h.length H 2 v3]]=_
  rw [e1,e2,e3]; rfl
 refine hp.res (CvR.tup (CvRL.cons (CvR.agg (CvRL.cons WG (CvRL.cons WG (CvRL.refl _)))) (CvRL.cons (CvR.agg (CvRL.cons ?_ CvRL.nil)) CvRL.nil)))
 have h1:CvR (fzG 1 (fun _:Pt=>JP) m.pts) (.sl (nm m.pts) 1 (m.pts.map fun _=>JP)):=WG
 have h2:=CvR.sl (AMD (s:=nm m.pts) m.pts)
 have h3:nm (zLs m)=nm m.pts:=by unfold zLs; cases m.pts <;> rfl
 intro g cv hr
 have:=h2 g cv (h1 g cv hr)
 rw [h3]; exact this
theorem AVY {H:Hp} {b:Nat} {row:List AV} {v1 v2:AV} (hb:H[b]? = some (.live 4 [row])) (hr:row.length=4) (h1:v1.leaf=true) (h2:v2.leaf=true):GG Tryz.prog H 28 (.ptr b 0 0) (.agg (LH v1 v2))=some (H.set b (.live 4 [LH v1 v2])):=by
 rw [PD (cs:=LH v1 v2) (UZ (by simp [LH,h1,h2]; rfl)) TS hb (by rw [hr]; exact Nat.le_refl 4)]
 have:splice row 0 (LH v1 v2)=LH v1 v2:=by unfold splice; rw [List.take_zero,List.drop_eq_nil_of_le (by rw [hr]; exact Nat.le_refl 4)]; simp
 rw [this]
theorem AVX {H:Hp} {b:Nat} {row:List AV} {v3:AV} (hb:H[b]? = some (.live 1 [row])) (hr:row.length=1) (h3:v3.leaf=true):GG Tryz.prog H 47 (.ptr b 0 0) (.agg [v3])=some (H.set b (.live 1 [[v3]])):=by
 rw [PD (cs := [v3]) (UZ (by simp [h3])) AP3 hb (by rw [hr]; exact Nat.le_refl 1)]
 have:splice row 0 [v3] = [v3]:=by unfold splice; rw [List.take_zero,List.drop_eq_nil_of_le (by rw [hr]; exact Nat.le_refl 1)]; simp
 rw [this]
set_option maxHeartbeats 2000000 in
theorem AK1 (G:Nat→AV) (m:Mo) (hm:MoOk m) (hg:Good m) (h:Hp):PCall (En G) 127 [.agg (DU m)] h (.tup [.agg (EF (J6 m)),.agg (OL ⟨nm (zLs m),zLs m⟩)]):=by
 refine AK0 ?_
 have hm1:=hm.np
 have hm2:=hm.nc
 have hnum:=hg.num
 refine CG (H:=hint [24,47] []) (enM G) Tryz.func127 rfl (by kernel_rfl) (by kernel_rfl) (Nat.le_of_ble_eq_true (by kernel_rfl)) ?_
 show awp _ _ _ _ _ (EU _ [.cell 2 28,.cell 3 47] _)
 have E:=Em.mk' h m
 simp -implicitDefEqProofs only [CY,List.contains_cons,List.contains_nil,Nat.reduceBEq,Bool.or_false,BB,AZ,A8,AY,BC,AL,BD,AX,AC,AA,A7,FW,FK,BO,BJ,BR,AB,BG,↓reduceIte,Nat.reduceEqDiff,Nat.add_zero,Option.getD_some,Bool.not_false,enP,IG,EK,bxM,MF,ADQ]
 generalize h ++ [ABlk.live 2 [DU m]] ++ [ABlk.live 4 [GI]] ++ [ABlk.live 1 [JP]] ++ [ABlk.live 4 [GI]] ++ [ABlk.live 1 [JP]]=H0 at E ⊢
 generalize (h ++ [ABlk.live 2 [DU m]] ++ [ABlk.live 4 [GI]] ++ [ABlk.live 1 [JP]] ++ [ABlk.live 4 [GI]]).length=b5 at E ⊢
 generalize (h ++ [ABlk.live 2 [DU m]] ++ [ABlk.live 4 [GI]] ++ [ABlk.live 1 [JP]]).length=b4 at E ⊢
 generalize (h ++ [ABlk.live 2 [DU m]] ++ [ABlk.live 4 [GI]]).length=b3 at E ⊢
 generalize (h ++ [ABlk.live 2 [DU m]]).length=b2 at E ⊢
 have o2:=E.o2; have o3:=E.o3; have o4:=E.o4; have o5:=E.o5
 have hlt0:=E.lt
 simp -implicitDefEqProofs only [CY,List.contains_cons,List.contains_nil,Nat.reduceBEq,Bool.or_false,BP,A8,AY,BC,AL,BD,AX,AC,AA,A7,AU,BH,BF,DN,AB,↓reduceIte,Option.getD_some,Bool.not_false,enP,QE,EK,E.m0,List.length_map]
 refine F8 0 (fun F H => ∃ v1 v3,F 1 = .ptr h.length 0 0∧F 2 = .ptr b2 0 0∧F 3 = .ptr b3 0 0∧F 4 = .ptr b4 0 0∧F 5 = .ptr b5 0 0∧Em h H m b2 b3 b4 b5 v1 (.sl .nil 0 []) v3∧outG 1 HY H0 (zPs m) v1 H∧outG 1 (fun _:Pt=>JP) H0 m.pts v3 H∧(∀ b,isB v1 b→¬ isB v3 b)∧H0.length≤H.length) (fun _ _=>False) ?_ ?_ (fun _ _ hh=>hh.elim)
 ·refine C9 (fun n F H => ∃ i v1 v3,n+i=m.pts.length∧F 1 = .ptr h.length 0 0∧F 2 = .ptr b2 0 0∧F 3 = .ptr b3 0 0∧F 4 = .ptr b4 0 0∧F 5 = .ptr b5 0 0∧F 11 = .sl m.pm 6 (m.pts.map IM)∧F 12 = .int .i64 m.pts.length∧F 13 = .int .i64 (i:Nat)∧Em h H m b2 b3 b4 b5 v1 (.sl .nil 0 []) v3∧outG 1 HY H0 ((zPs m).take i) v1 H∧outG 1 (fun _:Pt=>JP) H0 (m.pts.take i) v3 H∧(∀ b,isB v1 b→¬ isB v3 b)∧H0.length≤H.length) m.pts.length
   ⟨0,_,_,by simp,by simp -implicitDefEqProofs only [AA,↓reduceIte,Nat.reduceEqDiff],by simp -implicitDefEqProofs only [AA,↓reduceIte,Nat.reduceEqDiff],by simp -implicitDefEqProofs only [AA,↓reduceIte,Nat.reduceEqDiff],by simp -implicitDefEqProofs only [AA,↓reduceIte,Nat.reduceEqDiff],by simp -implicitDefEqProofs only [AA,↓reduceIte,Nat.reduceEqDiff],by simp -implicitDefEqProofs only [AA,↓reduceIte,Nat.reduceEqDiff],by simp -implicitDefEqProofs only [AA,↓reduceIte,Nat.reduceEqDiff],by simp -implicitDefEqProofs only [AA,↓reduceIte]; rfl,E,by rw [List.take_zero]; exact outG.nil _ _ _ _,by rw [List.take_zero]; exact outG.nil _ _ _ _,fun b hb=>hb.elim,Nat.le_refl _⟩ ?_
  clear E
  rintro n F H ⟨i,v1,v3,hi,f1,f2,f3,f4,f5,f11,f12,f13,E,ho1,ho3,hdis,hle⟩
  simp -implicitDefEqProofs only [CY,List.contains_cons,List.contains_nil,Nat.reduceBEq,Bool.or_false,BB,AZ,BI,A8,AY,BC,AL,BD,AX,AC,AA,A7,BQ,AB,CW,↓reduceIte,Option.getD_some,Bool.not_false,enP,EK,f12,f13]
  refine CQ (fun hc => ?_) (fun hc => ?_)
  ·have hi':i < m.pts.length:=by simpa using hc
   have h64:=(hg.full _ (List.getElem_mem hi')).2
   have hP:=AGR m i hi'
   simp -implicitDefEqProofs only [CY,List.contains_cons,List.contains_nil,Nat.reduceBEq,Bool.or_false,BB,BP,AZ,BN,A8,AY,BC,AL,BD,AX,AC,EZ,AA,A7,FW,BO,EI,BZ,BR,AB,DR,↓reduceIte,Nat.reduceEqDiff,Option.getD_some,Bool.not_false,enP,OJ,EK,Option.getD_none,f11,f13,DJ hi',FD AGM ZM J8 hi',AVG,ATA _ _ [.str ⟨#[]⟩,.int .i64 0,.int .i64 0,.str ⟨#[]⟩,.sl .nil 0 [],.sl .nil 0 []] rfl]
   have E1:=E.app [.live 6 [IM m.pts[i]]]
   obtain ⟨v1',H2,hap,ho1',hk1,hl2,hn1,⟨o,l,rfl⟩,hx2⟩:=(ho1.app [.live 6 [IM m.pts[i]]]).app2 AGZ AC3 AJU AJB (by omega) (by rw [List.length_take,ZV]; omega) (by simp; omega) (zIs m.pts[i].bins.length)
   rw [← hP] at ho1'
   have E2:=E1.keep hk1 (fun b hb=>by have:=ho1.lt hb; omega) (hx2 h (by omega))
   have E3:=E2.set4 (.own o 0 l) (.sl .nil 0 [])
   have ho3':=((ho3.app [.live 6 [IM m.pts[i]]]).keepA hk1 (fun b hb h1=>hdis b h1 hb)).setB (b:=b4) (by omega) (.live 4 [LH (.own o 0 l) (.sl .nil 0 [])])
   have ho1'':=ho1'.setB (b:=b4) (by omega) (.live 4 [LH (.own o 0 l) (.sl .nil 0 [])])
   have hdis' : ∀ b,isB (.own o 0 l) b→¬ isB v3 b:=fun b hb h3=>by
    have h1:=hn1 b hb
    have h2:=ho3.lt h3
    simp at h1; omega
   refine ER (by kernel_rfl) ?_
   simp -implicitDefEqProofs only [F7,FP,FZ,CY,List.contains_cons,List.contains_nil,Nat.reduceBEq,Bool.or_false,D9,DT,EC,KC,FC,O8,D5,GV,AA,A7,ES,BO,JV,BJ,DN,GU,BR,AB,↓reduceIte,Nat.reduceEqDiff,Nat.reduceAdd,Nat.add_zero,Nat.zero_add,Option.getD_some,enP,OY,QS,IU,f4,E1.l4,DI PO,ML,List.length_map,mkF _ _ (show m.pts[i].bins.length≤1048576 by omega),AEV]
   refine F9 (v := .own o 0 l) (h:=H2) hap ?_
   simp -implicitDefEqProofs only [F7,CY,List.contains_cons,List.contains_nil,Nat.reduceBEq,Bool.or_false,D9,DT,MX,E8,EC,MQ,D5,AZ,A8,AY,AL,BD,AX,AC,AA,A7,BO,EI,BJ,AB,DR,↓reduceIte,Nat.reduceEqDiff,Nat.reduceAdd,Nat.add_zero,Nat.zero_add,Option.getD_some,Bool.not_false,enP,OY,ARN,EK,Option.getD_none,f4,f5,E2.s4]
   have hl3:(H2.set b4 (.live 4 [LH (.own o 0 l) (.sl .nil 0 [])])).length=H.length+2:=by rw [List.length_set,hl2,List.length_append]; rfl
   generalize H2.set b4 (.live 4 [LH (.own o 0 l) (.sl .nil 0 [])])=H3 at E3 ho3' ho1'' hl3 ⊢
   obtain ⟨v3',H4,hap3,ho3'',hk3,hl4,hn3,⟨o3',l3,rfl⟩,hx4⟩:=ho3'.app2 AGZ AC3 AJU AJB (by omega) (by rw [List.length_take]; omega) (by omega) m.pts[i]
   rw [← List.take_succ_eq_append_getElem hi'] at ho3''
   have E4:=E3.keep hk3 (fun b hb=>by have:=ho3'.lt hb; omega) (hx4 h (by omega))
   have E5:=E4.set5 (.own o3' 0 l3)
   have ho1f:=(ho1''.keepA hk3 hdis').setB (b:=b5) (by omega) (.live 1 [[.own o3' 0 l3]])
   have ho3f:=ho3''.setB (b:=b5) (by omega) (.live 1 [[.own o3' 0 l3]])
   simp -implicitDefEqProofs only [FP,FZ,CY,List.contains_cons,List.contains_nil,Nat.reduceBEq,Bool.or_false,AY,AL,BD,AX,AC,AA,A7,AU,FV,ES,GU,BR,AB,↓reduceIte,Nat.reduceEqDiff,Option.getD_some,Bool.not_false,enP,EK,E3.l5,AZI]
   refine F9 (v := .own o3' 0 l3) (h:=H4) hap3 ?_
   simp -implicitDefEqProofs only [CY,List.contains_cons,List.contains_nil,Nat.reduceBEq,Bool.or_false,AZ,A8,D8,ED,AY,BC,AL,BD,AX,AC,EZ,AA,A7,AU,BH,BF,EI,BQ,BJ,AB,DR,CZ,↓reduceIte,Nat.reduceEqDiff,Nat.add_zero,Option.getD_some,Bool.not_false,enP,ARN,EK,Option.getD_none,f5,E4.s5,f13,wrap_succ (show i < 9223372036854775807 by omega)]
   refine ⟨n - 1,by omega,i+1,.own o 0 l,.own o3' 0 l3,by omega,f1,f2,f3,f4,trivial,f11,f12,rfl,E5,ho1f,ho3f,fun b hb h3 => ?_,?_⟩
   ·have h1:=hn1 b hb
    have h2:=hn3 b h3
    rw [List.length_append] at h1
    simp at h1; omega
   ·rw [List.length_set]; omega
  ·have hi' : ¬ i < m.pts.length:=by simpa using hc
   rw [List.take_of_length_le (by rw [ZV]; omega)] at ho1
   rw [List.take_of_length_le (by omega)] at ho3
   simp -implicitDefEqProofs only [DC,DZ,JM,EP,AA,↓reduceIte,Nat.reduceEqDiff]
   exact ⟨v1,v3,f1,f2,f3,f4,f5,E,ho1,ho3,hdis,hle⟩
 ·rintro F H ⟨v1,v3,f1,f2,f3,f4,f5,E,ho1,ho3,hdis,hle⟩
  simp -implicitDefEqProofs only [CY,List.contains_cons,List.contains_nil,Nat.reduceBEq,Bool.or_false,BB,BP,AZ,A8,EN,AY,BC,AL,BD,AX,AC,AA,A7,AU,BH,BF,BO,BJ,DN,AB,↓reduceIte,Nat.zero_add,Option.getD_some,Bool.not_false,enP,TB,IX,EK,f1,E.m1,List.length_map]
  refine F8 2 (fun F H => ∃ v2,F 2 = .ptr b2 0 0∧F 3 = .ptr b3 0 0∧F 4 = .ptr b4 0 0∧F 5 = .ptr b5 0 0∧Em h H m b2 b3 b4 b5 v1 v2 v3∧outG 1 HY H0 (zPs m) v1 H∧outG 1 HY H0 (zCs m) v2 H∧outG 1 (fun _:Pt=>JP) H0 m.pts v3 H) (fun _ _=>False) ?_ ?_ (fun _ _ hh=>hh.elim)
  ·refine C9 (fun n F H => ∃ i v2,n+i=m.crs.length∧F 1 = .ptr h.length 0 0∧F 2 = .ptr b2 0 0∧F 3 = .ptr b3 0 0∧F 4 = .ptr b4 0 0∧F 5 = .ptr b5 0 0∧F 33 = .sl m.cm 3 (m.crs.map H6)∧F 34 = .int .i64 m.crs.length∧F 35 = .int .i64 (i:Nat)∧Em h H m b2 b3 b4 b5 v1 v2 v3∧outG 1 HY H0 (zPs m) v1 H∧outG 1 HY H0 ((zCs m).take i) v2 H∧outG 1 (fun _:Pt=>JP) H0 m.pts v3 H∧(∀ b,isB v2 b→¬ isB v1 b∧¬ isB v3 b)∧H0.length≤H.length) m.crs.length
    ⟨0,_,by simp,by simp -implicitDefEqProofs only [AA,↓reduceIte,Nat.reduceEqDiff,f1],by simp -implicitDefEqProofs only [AA,↓reduceIte,Nat.reduceEqDiff,f2],by simp -implicitDefEqProofs only [AA,↓reduceIte,Nat.reduceEqDiff,f3],by simp -implicitDefEqProofs only [AA,↓reduceIte,Nat.reduceEqDiff,f4],by simp -implicitDefEqProofs only [AA,↓reduceIte,Nat.reduceEqDiff,f5],by simp -implicitDefEqProofs only [AA,↓reduceIte,Nat.reduceEqDiff],by simp -implicitDefEqProofs only [AA,↓reduceIte,Nat.reduceEqDiff],by simp -implicitDefEqProofs only [AA,↓reduceIte]; rfl,E,ho1,by rw [List.take_zero]; exact outG.nil _ _ _ _,ho3,fun b hb=>hb.elim,hle⟩ ?_
   clear f1 f2 f3 f4 f5 E ho1 ho3 hle
   rintro n F H ⟨i,v2,hi,f1,f2,f3,f4,f5,f33,f34,f35,E,ho1,ho2,ho3,hd2,hle⟩
   simp -implicitDefEqProofs only [CY,List.contains_cons,List.contains_nil,Nat.reduceBEq,Bool.or_false,BB,AZ,BI,A8,AY,BC,AL,BD,AX,AC,AA,A7,BQ,AB,CW,↓reduceIte,Option.getD_some,Bool.not_false,enP,EK,f34,f35]
   refine CQ (fun hc => ?_) (fun hc => ?_)
   ·have hi':i < m.crs.length:=by simpa using hc
    have hcg:=hg.crs _ (List.getElem_mem hi')
    have hfs:=hg.full.szs hcg.here
    have hsl:=J3 m m.crs[i].pts
    have hfour:=hcg.four
    have hpr:=hcg.prod
    have hC:=AGS m i hi'
    have E1:=E.app [.live 3 [H6 m.crs[i]]]
    have gc1:=CX H (.live 3 [H6 m.crs[i]])
    obtain ⟨v2',H2,hap,ho2',hk2,hl2,hn2,⟨o,l,rfl⟩,hx2⟩:=(ho2.app [.live 3 [H6 m.crs[i]]]).app2 AGZ AC3 AJU AJB (by omega) (by rw [List.length_take,ZW]; omega) (by simp; omega) (zIs (FY (szs m m.crs[i].pts)))
    rw [← hC] at ho2'
    have E2:=E1.keep hk2 (fun b hb=>by have:=ho2.lt hb; omega) (hx2 h (by omega))
    have E3:=E2.set4 v1 (.own o 0 l)
    have ho1':=((ho1.app [.live 3 [H6 m.crs[i]]]).keepA hk2 (fun b hb h2=>(hd2 b h2).1 hb)).setB (b:=b4) (by omega) (.live 4 [LH v1 (.own o 0 l)])
    have ho3':=((ho3.app [.live 3 [H6 m.crs[i]]]).keepA hk2 (fun b hb h2=>(hd2 b h2).2 hb)).setB (b:=b4) (by omega) (.live 4 [LH v1 (.own o 0 l)])
    have ho2'':=ho2'.setB (b:=b4) (by omega) (.live 4 [LH v1 (.own o 0 l)])
    simp -implicitDefEqProofs only [CY,List.contains_cons,List.contains_nil,Nat.reduceBEq,Bool.or_false,BB,BP,AZ,BN,A8,AY,BC,AL,BD,AX,AC,EZ,AA,A7,FW,BO,EI,BZ,BR,AB,DR,↓reduceIte,Nat.reduceEqDiff,Option.getD_some,Bool.not_false,enP,RF,EK,Option.getD_none,f33,f35,DJ hi',FD ACQ X7 KG hi',AVF,AS9 _ _ [.str ⟨#[]⟩,.sl .nil 0 [],.sl .nil 0 []] rfl]
    refine ER (by kernel_rfl) ?_
    simp -implicitDefEqProofs only [F7,CY,List.contains_cons,List.contains_nil,Nat.reduceBEq,Bool.or_false,D9,DT,EC,FC,O8,D5,GM,F6,AA,A7,CB,BO,JV,BJ,AB,List.map_cons,List.map_nil,List.append_nil,↓reduceIte,Nat.reduceEqDiff,Nat.reduceAdd,Nat.zero_add,Option.getD_some,enP,NS,f1,f4,E1.l4',ldM E1.gm,ldC gc1]
    refine ⟨_,V6 G m _ _ hcg.here (by omega),?_⟩
    try simp -implicitDefEqProofs only []
    refine ⟨_,S9 G _ _ _ (fun n hn=>(hfs n hn).2) (by omega),?_⟩
    try simp -implicitDefEqProofs only [F7,FP,FZ,CY,List.contains_cons,List.contains_nil,Nat.reduceBEq,Bool.or_false,Bool.or_true,D9,DT,EC,KC,GV,AA,A7,ES,GU,BR,↓reduceIte,Nat.reduceEqDiff,Nat.reduceAdd,Option.getD_some,enP,mkF _ _ (show FY (szs m m.crs[i].pts)≤1048576 by omega),AEV]
    refine F9 (v := .own o 0 l) (h:=H2) hap ?_
    simp -implicitDefEqProofs only [F7,CY,List.contains_cons,List.contains_nil,Nat.reduceBEq,Bool.or_false,D9,DT,MX,E8,EC,MQ,D5,AZ,A8,D8,ED,AY,BC,AL,BD,AX,AC,AA,A7,AU,BH,BF,EI,BQ,BJ,AB,DR,CZ,↓reduceIte,Nat.reduceEqDiff,Nat.reduceAdd,Nat.zero_add,Option.getD_some,Bool.not_false,enP,NS,EK,Option.getD_none,f4,E2.s4',f35,wrap_succ (show i < 9223372036854775807 by omega)]
    refine ⟨n - 1,by omega,i+1,.own o 0 l,by omega,f1,f2,f3,trivial,f5,f33,f34,rfl,E3,ho1',ho2'',ho3',fun b hb=>⟨fun h1 => ?_,fun h3 => ?_⟩,?_⟩
    ·have h0:=hn2 b hb
     have h2:=ho1.lt h1
     rw [List.length_append] at h0
     simp at h0; omega
    ·have h0:=hn2 b hb
     have h2:=ho3.lt h3
     rw [List.length_append] at h0
     simp at h0; omega
    ·rw [List.length_set,hl2,List.length_append]; simp; omega
   ·have hi' : ¬ i < m.crs.length:=by simpa using hc
    rw [List.take_of_length_le (by rw [ZW]; omega)] at ho2
    simp -implicitDefEqProofs only [DC,DZ,JM,EP,AA,↓reduceIte,Nat.reduceEqDiff]
    exact ⟨v2,f2,f3,f4,f5,E,ho1,ho2,ho3⟩
  ·rintro F' H' ⟨v2,g2,g3,g4,g5,E',q1,q2,q3⟩
   simp -implicitDefEqProofs only [BB,A8,EN,↓reduceIte]
   have p2:=E'.o2; have p3:=E'.o3; have p4:=E'.o4; have p5:=E'.o5
   refine YS [(5,2)] (by kernel_rfl) ?_ ?_
   ·simp -implicitDefEqProofs only [g2,g5,YY,ACX,AAY,and_true]
    omega
   simp -implicitDefEqProofs only [F7,CY,List.contains_cons,List.contains_nil,Nat.reduceBEq,Bool.or_false,D9,DT,MX,E8,EC,FC,MQ,BM,A8,AA,A7,BO,EI,AB,DR,↓reduceIte,Nat.reduceEqDiff,Nat.reduceAdd,Nat.zero_add,Option.getD_some,enP,Option.getD_none,g2,g3,g4,g5,MV E'.g4 rfl,XC E'.g5 rfl,AVY E'.g2 rfl q1.leaf q2.leaf,AVX (EX E'.g3 (show b3≠b2 by omega)) rfl q3.leaf]
   rw [AXV (ba:=b2) (bb:=b3) (by simp -implicitDefEqProofs only [AA,↓reduceIte,Nat.reduceEqDiff,g2]) (by simp -implicitDefEqProofs only [AA,↓reduceIte,Nat.reduceEqDiff,g3]) (MV (EX (EM E'.g2) (show b2≠b3 by omega)) rfl) (XC (EM (EX E'.g3 (show b3≠b2 by omega))) rfl)]
   have hs1 : ∀ {α:Type} {f:α→List AV} {ys:List α} {v:AV},outG 1 f H0 ys v H'→outG 1 f h ys v ((H'.set b2 (.live 4 [LH v1 v2])).set b3 (.live 1 [[v3]])):=fun q=>((q.setB (b:=b2) (by omega) _).setB (b:=b3) (by omega) _).base (by omega)
   exact ⟨(E'.hx.set (by omega) _).set (by omega) _,v1,v2,v3,rfl,hs1 q1,hs1 q2,hs1 q3⟩
end Go.Proofs.YtocilianjfhifaaGreatDoor.Cov
/- The coverage without samples: the reference; no condition but the bounds on lengths. -/
set_option linter.unusedSimpArgs false
set_option maxRecDepth 8000
namespace Go.Proofs.YtocilianjfhifaaGreatDoor.Cov
open Go Go.Proofs Go.Proofs.YtocilianjfhifaaGreatDoor.Sm Go.Proofs.YtocilianjfhifaaGreatDoor.Bins Go.RowKit

structure Er (h H:Hp) (m:Mo) (b2 b3:Nat) (v1 v2:AV):Prop where
 gm:H[h.length]? = some (.live 2 [DU m])
 g2:H[b2]? = some (.live 4 [GI])
 g3:H[b3]? = some (.live 4 [LH v1 v2])
 o2:h.length < b2
 o3:b2 < b3
 hx:ext h H
section
variable {h H:Hp} {m:Mo} {b2 b3:Nat} {v1 v2:AV} (E:Er h H m b2 b3 v1 v2)
include E
theorem Er.m0:EE Tryz.prog H 22 (.ptr h.length 0 0)=some (.sl m.pm 6 (m.pts.map IM)):=by rw [D6 VN E.gm (row:=DU m) rfl,QK]
theorem Er.m1:EE Tryz.prog H 23 (.ptr h.length 0 1)=some (.sl m.cm 3 (m.crs.map H6)):=by rw [D6 YV E.gm (row:=DU m) rfl,TP]
theorem Er.l3:EE Tryz.prog H 26 (.ptr b3 0 0)=some v1:=by rw [D6 SH E.g3 (row:=LH v1 v2) rfl]; rfl
theorem Er.l3':EE Tryz.prog H 26 (.ptr b3 0 1)=some v2:=by rw [D6 SH E.g3 (row:=LH v1 v2) rfl]; rfl
theorem Er.keep {H':Hp} {u:AV} (hk : ∀ b x,H[b]? = some x→¬ isB u b→H'[b]? = some x) (hu : ∀ b,isB u b→b3 < b) (hx:ext h H→ext h H'):Er h H' m b2 b3 v1 v2:=by
 have o2:=E.o2; have o3:=E.o3
 exact ⟨hk _ _ E.gm (fun e=>by have:=hu _ e; omega),hk _ _ E.g2 (fun e=>by have:=hu _ e; omega),hk _ _ E.g3 (fun e=>by have:=hu _ e; omega),o2,o3,hx E.hx⟩
theorem Er.set3 (w1 w2:AV):Er h (H.set b3 (.live 4 [LH w1 w2])) m b2 b3 w1 w2:=by
 have o2:=E.o2; have o3:=E.o3
 exact ⟨EX E.gm (by omega),EX E.g2 (by omega),EM E.g3,o2,o3,E.hx.set (by omega) _⟩
theorem Er.s3 {o l:Nat}:GG Tryz.prog H 26 (.ptr b3 0 0) (.own o 0 l)=some (H.set b3 (.live 4 [LH (.own o 0 l) v2])):=PD (row:=LH v1 v2) (ACV _ _ _) AP4 E.g3 (by simp [LH])
theorem Er.s3' {o l:Nat}:GG Tryz.prog H 26 (.ptr b3 0 1) (.own o 0 l)=some (H.set b3 (.live 4 [LH v1 (.own o 0 l)])):=PD (row:=LH v1 v2) (ACV _ _ _) AP4 E.g3 (by simp [LH])
theorem Er.lt:b3 < H.length:=CJ E.g3
end
theorem Er.mk' (h:Hp) (m:Mo):Er h (h ++ [ABlk.live 2 [DU m]] ++ [ABlk.live 4 [GI]] ++ [ABlk.live 4 [GI]]) m (h ++ [ABlk.live 2 [DU m]]).length (h ++ [ABlk.live 2 [DU m]] ++ [ABlk.live 4 [GI]]).length (.sl .nil 0 []) (.sl .nil 0 []) :=
 ⟨DL (DL (CX _ _)),DL (CX _ _),CX _ _,by simp,by simp,(((ext.rfl' h).app _).app _).app _⟩
theorem AWZ (h:Hp):GG Tryz.prog (h ++ [.live 4 [GI]]) 28 (.ptr h.length 0 0) (.agg GI)=some (h ++ [.live 4 [GI]]):=by rw [stZ (CX _ _) rfl,QV]
/-- what an empty coverage is frozen to -/
theorem AIZ {E:Env} {f:FuncId} {args:List AV} {h:Hp} {m:Mo} (hc:ACalls E f args h fun v H=>ext h H∧∃ v1 v2,v = .agg (LH v1 v2)∧outG 1 HY h (zPs m) v1 H∧outG 1 HY h (zCs m) v2 H) :
  PCall E f args h (.agg (EF (J6 m))):=by
 have hp:PCall E f args h (.agg (LH (fzG 1 HY (zPs m)) (fzG 1 HY (zCs m)))):=by
  refine ACalls.pure 3 hc ?_
  rintro v H ⟨he,v1,v2,rfl,o1,o2⟩
  refine ⟨he,?_⟩
  have e1:=QH AOT o1 h.length 0 (Nat.le_refl _)
  have e2:=QH AOT o2 h.length 0 (Nat.le_refl _)
  show AV.agg [JF h.length H 2 v1,JF h.length H 2 v2,.int .i64 0,.int .i64 0]=_
  rw [e1,e2]; rfl
 exact hp.res (CvR.agg (CvRL.cons WG (CvRL.cons WG (CvRL.refl _))))
set_option maxHeartbeats 2000000 in
theorem AO2 (G:Nat→AV) (m:Mo) (hm:MoOk m) (hg:Good m) (h:Hp):PCall (En G) 92 [.agg (DU m)] h (.agg (EF (J6 m))):=by
 refine AIZ ?_
 have hm1:=hm.np
 have hm2:=hm.nc
 have hnum:=hg.num
 refine CG (H:=hint [25,45] []) (enM G) Tryz.func92 rfl (by kernel_rfl) (by kernel_rfl) (Nat.le_of_ble_eq_true (by kernel_rfl)) ?_
 show awp _ _ _ _ _ (EU _ [.cell 2 28] _)
 have E:=Er.mk' h m
 simp -implicitDefEqProofs only [FP,CY,List.contains_cons,List.contains_nil,Nat.reduceBEq,Bool.or_false,BB,BP,AZ,A8,AY,BC,AL,BD,AX,AC,EZ,AA,A7,AU,BH,BA,FW,FK,JI,EI,BR,AB,DR,BG,↓reduceIte,Nat.reduceEqDiff,Option.getD_some,Bool.not_false,enP,EK,Option.getD_none,bxM,MF,VZ,AWZ]
 generalize h ++ [ABlk.live 2 [DU m]] ++ [ABlk.live 4 [GI]] ++ [ABlk.live 4 [GI]]=H0 at E ⊢
 generalize (h ++ [ABlk.live 2 [DU m]] ++ [ABlk.live 4 [GI]]).length=b3 at E ⊢
 generalize (h ++ [ABlk.live 2 [DU m]]).length=b2 at E ⊢
 have o2:=E.o2; have o3:=E.o3
 have hlt0:=E.lt
 refine F8 0 (fun F H => ∃ v1,F 1 = .ptr h.length 0 0∧F 2 = .ptr b2 0 0∧F 3 = .ptr b3 0 0∧Er h H m b2 b3 v1 (.sl .nil 0 [])∧outG 1 HY H0 (zPs m) v1 H∧H0.length≤H.length) (fun _ _=>False) ?_ ?_ (fun _ _ hh=>hh.elim)
 ·refine C9 (fun n F H => ∃ i v1,n+i=m.pts.length∧F 1 = .ptr h.length 0 0∧F 2 = .ptr b2 0 0∧F 3 = .ptr b3 0 0∧F 4 = .int .i64 (i:Nat)∧Er h H m b2 b3 v1 (.sl .nil 0 [])∧outG 1 HY H0 ((zPs m).take i) v1 H∧H0.length≤H.length) m.pts.length
   ⟨0,_,by simp,by simp -implicitDefEqProofs only [AA,↓reduceIte,Nat.reduceEqDiff],by simp -implicitDefEqProofs only [AA,↓reduceIte,Nat.reduceEqDiff],by simp -implicitDefEqProofs only [AA,↓reduceIte,Nat.reduceEqDiff],by simp -implicitDefEqProofs only [AA,↓reduceIte]; rfl,E,by rw [List.take_zero]; exact outG.nil _ _ _ _,Nat.le_refl _⟩ ?_
  clear E
  rintro n F H ⟨i,v1,hi,f1,f2,f3,f4,E,ho1,hle⟩
  simp -implicitDefEqProofs only [CY,List.contains_cons,List.contains_nil,Nat.reduceBEq,Bool.or_false,BB,AZ,BI,A8,AY,BC,AL,BD,AX,AC,AA,A7,BF,BO,BQ,BJ,DN,AB,CW,↓reduceIte,Nat.reduceEqDiff,Nat.add_zero,Option.getD_some,Bool.not_false,enP,QE,IG,EK,f1,f4,E.m0,List.length_map]
  refine CQ (fun hc => ?_) (fun hc => ?_)
  ·have hi':i < m.pts.length:=by simpa using hc
   have h64:=(hg.full _ (List.getElem_mem hi')).2
   have hP:=AGR m i hi'
   have hH:=E.lt
   obtain ⟨v1',H2,hap,ho1',hk1,hl2,hn1,⟨o,l,rfl⟩,hx2⟩:=ho1.app2 AGZ AC3 AJU AJB (by omega) (by rw [List.length_take,ZV]; omega) hle (zIs m.pts[i].bins.length)
   rw [← hP] at ho1'
   have E2:=E.keep hk1 (fun b hb=>by have:=ho1.lt hb; omega) (hx2 h (by omega))
   have E3:=E2.set3 (.own o 0 l) (.sl .nil 0 [])
   have ho1'':=ho1'.setB (b:=b3) (by omega) (.live 4 [LH (.own o 0 l) (.sl .nil 0 [])])
   simp -implicitDefEqProofs only [BB,BP,BN,A8]
   refine ER (by kernel_rfl) ?_
   simp -implicitDefEqProofs only [F7,FP,FZ,CY,List.contains_cons,List.contains_nil,Nat.reduceBEq,Bool.or_false,D9,DT,EC,FH,KC,FC,O8,D5,D7,GV,AA,A7,ES,BO,JV,BJ,BZ,DN,GU,BR,AB,↓reduceIte,Nat.reduceEqDiff,Nat.reduceAdd,Nat.add_zero,Nat.zero_add,Option.getD_some,enP,OJ,IG,OY,QS,IU,f1,f3,f4,E.l3,E.m0,DJ hi',CV PO hi',ML,List.length_map,mkF _ _ (show m.pts[i].bins.length≤1048576 by omega),AEV]
   refine F9 (v := .own o 0 l) (h:=H2) hap ?_
   simp -implicitDefEqProofs only [F7,CY,List.contains_cons,List.contains_nil,Nat.reduceBEq,Bool.or_false,D9,DT,MX,E8,EC,MQ,D5,AZ,A8,D8,ED,AY,BC,AL,BD,AX,AC,AA,A7,AU,BH,BF,BA,EI,BQ,BJ,AB,DR,CZ,↓reduceIte,Nat.reduceEqDiff,Nat.reduceAdd,Nat.add_zero,Nat.zero_add,Option.getD_some,Bool.not_false,enP,OY,EK,Option.getD_none,f3,E2.s3,f4,wrap_succ (show i < 9223372036854775807 by omega)]
   exact ⟨n - 1,by omega,i+1,.own o 0 l,by omega,f1,f2,trivial,rfl,E3,ho1'',by rw [List.length_set]; omega⟩
  ·have hi' : ¬ i < m.pts.length:=by simpa using hc
   rw [List.take_of_length_le (by rw [ZV]; omega)] at ho1
   simp -implicitDefEqProofs only [DC,DZ,JM,EP,AA,↓reduceIte,Nat.reduceEqDiff]
   exact ⟨v1,f1,f2,f3,E,ho1,hle⟩
 ·rintro F H ⟨v1,f1,f2,f3,E,ho1,hle⟩
  simp -implicitDefEqProofs only [CY,List.contains_cons,List.contains_nil,Nat.reduceBEq,Bool.or_false,BB,BP,AZ,A8,EN,AY,BC,AL,BD,AX,AC,AU,BH,BA,↓reduceIte,Option.getD_some,Bool.not_false,EK]
  refine F8 2 (fun F H => ∃ v2,F 2 = .ptr b2 0 0∧F 3 = .ptr b3 0 0∧Er h H m b2 b3 v1 v2∧outG 1 HY H0 (zPs m) v1 H∧outG 1 HY H0 (zCs m) v2 H) (fun _ _=>False) ?_ ?_ (fun _ _ hh=>hh.elim)
  ·refine C9 (fun n F H => ∃ i v2,n+i=m.crs.length∧F 1 = .ptr h.length 0 0∧F 2 = .ptr b2 0 0∧F 3 = .ptr b3 0 0∧F 5 = .int .i64 (i:Nat)∧Er h H m b2 b3 v1 v2∧outG 1 HY H0 (zPs m) v1 H∧outG 1 HY H0 ((zCs m).take i) v2 H∧(∀ b,isB v2 b→¬ isB v1 b)∧H0.length≤H.length) m.crs.length
    ⟨0,_,by simp,by simp -implicitDefEqProofs only [AA,↓reduceIte,Nat.reduceEqDiff,f1],by simp -implicitDefEqProofs only [AA,↓reduceIte,Nat.reduceEqDiff,f2],by simp -implicitDefEqProofs only [AA,↓reduceIte,Nat.reduceEqDiff,f3],by simp -implicitDefEqProofs only [AA,↓reduceIte]; rfl,E,ho1,by rw [List.take_zero]; exact outG.nil _ _ _ _,fun b hb=>hb.elim,hle⟩ ?_
   clear f1 f2 f3 E ho1 hle
   rintro n F H ⟨i,v2,hi,f1,f2,f3,f5,E,ho1,ho2,hd2,hle⟩
   simp -implicitDefEqProofs only [CY,List.contains_cons,List.contains_nil,Nat.reduceBEq,Bool.or_false,BB,AZ,BI,A8,AY,BC,AL,BD,AX,AC,AA,A7,BF,BO,BQ,BJ,DN,AB,CW,↓reduceIte,Nat.reduceEqDiff,Nat.zero_add,Option.getD_some,Bool.not_false,enP,TB,IX,EK,f1,f5,E.m1,List.length_map]
   refine CQ (fun hc => ?_) (fun hc => ?_)
   ·have hi':i < m.crs.length:=by simpa using hc
    have hcg:=hg.crs _ (List.getElem_mem hi')
    have hpr:=hcg.prod
    have hfour:=hcg.four
    have hmin:min ((FY (szs m m.crs[i].pts):Nat):Int) 1000=((FY (szs m m.crs[i].pts):Nat):Int):=by omega
    have hcall:=YP G m m.crs[i] H hcg.here hg.full (by omega)
    rw [hmin] at hcall
    have hC:=AGS m i hi'
    have hH:=E.lt
    obtain ⟨v2',H2,hap,ho2',hk2,hl2,hn2,⟨o,l,rfl⟩,hx2⟩:=ho2.app2 AGZ AC3 AJU AJB (by omega) (by rw [List.length_take,ZW]; omega) hle (zIs (FY (szs m m.crs[i].pts)))
    rw [← hC] at ho2'
    have E2:=E.keep hk2 (fun b hb=>by have:=ho2.lt hb; omega) (hx2 h (by omega))
    have E3:=E2.set3 v1 (.own o 0 l)
    have ho1':=(ho1.keepA hk2 (fun b hb h2=>hd2 b h2 hb)).setB (b:=b3) (by omega) (.live 4 [LH v1 (.own o 0 l)])
    have ho2'':=ho2'.setB (b:=b3) (by omega) (.live 4 [LH v1 (.own o 0 l)])
    simp -implicitDefEqProofs only [BB,BP,BN,A8]
    refine ER (by kernel_rfl) ?_
    simp -implicitDefEqProofs only [F7,CY,List.contains_cons,List.contains_nil,Nat.reduceBEq,Bool.or_false,D9,DT,EC,FH,FC,O8,D5,D7,GM,F6,AA,A7,CB,BO,JV,BJ,BZ,AB,List.map_cons,List.map_nil,List.append_nil,↓reduceIte,Nat.reduceEqDiff,Nat.reduceAdd,Nat.zero_add,Option.getD_some,enP,RF,IX,NS,f1,f3,f5,E.l3',E.m1,ldM E.gm,DJ hi',FD ACQ X7 KG hi']
    refine ⟨_,hcall,?_⟩
    try simp -implicitDefEqProofs only [F7,FP,FZ,CY,List.contains_cons,List.contains_nil,Nat.reduceBEq,Bool.or_false,Bool.or_true,D9,DT,EC,KC,GV,AA,A7,ES,GU,BR,↓reduceIte,Nat.reduceEqDiff,Nat.reduceAdd,Option.getD_some,enP,mkF _ _ (show FY (szs m m.crs[i].pts)≤1048576 by omega),AEV]
    refine F9 (v := .own o 0 l) (h:=H2) hap ?_
    simp -implicitDefEqProofs only [F7,CY,List.contains_cons,List.contains_nil,Nat.reduceBEq,Bool.or_false,D9,DT,MX,E8,EC,MQ,D5,AZ,A8,D8,ED,AY,BC,AL,BD,AX,AC,AA,A7,AU,BH,BF,BA,EI,BQ,BJ,AB,DR,CZ,↓reduceIte,Nat.reduceEqDiff,Nat.reduceAdd,Nat.zero_add,Option.getD_some,Bool.not_false,enP,NS,EK,Option.getD_none,f3,E2.s3',f5,wrap_succ (show i < 9223372036854775807 by omega)]
    refine ⟨n - 1,by omega,i+1,.own o 0 l,by omega,f1,f2,trivial,rfl,E3,ho1',ho2'',fun b hb h1 => ?_,by rw [List.length_set]; omega⟩
    have h0:=hn2 b hb
    have h2:=ho1.lt h1
    omega
   ·have hi' : ¬ i < m.crs.length:=by simpa using hc
    rw [List.take_of_length_le (by rw [ZW]; omega)] at ho2
    simp -implicitDefEqProofs only [DC,DZ,JM,EP,AA,↓reduceIte,Nat.reduceEqDiff]
    exact ⟨v2,f2,f3,E,ho1,ho2⟩
  ·rintro F' H' ⟨v2,g2,g3,E',q1,q2⟩
   have hp:=E'.o2; have hq:=E'.o3
   simp -implicitDefEqProofs only [CY,List.contains_cons,List.contains_nil,Nat.reduceBEq,Bool.or_false,BB,AZ,BM,A8,EN,AY,BC,AL,BD,AX,AC,EZ,AA,A7,BO,EI,AB,DR,↓reduceIte,Nat.reduceEqDiff,Option.getD_some,Bool.not_false,enP,EK,Option.getD_none,g2,g3,MV E'.g3 rfl,AVY E'.g2 rfl q1.leaf q2.leaf]
   rw [AB6 (b:=b2) (by simp -implicitDefEqProofs only [AA,↓reduceIte,Nat.reduceEqDiff,g2]) (MV (EM E'.g2) rfl)]
   have hs1 : ∀ {α:Type} {f:α→List AV} {ys:List α} {v:AV},outG 1 f H0 ys v H'→outG 1 f h ys v (H'.set b2 (.live 4 [LH v1 v2])):=fun q=>(q.setB (b:=b2) (by omega) _).base (by omega)
   exact ⟨E'.hx.set (by omega) _,v1,v2,rfl,hs1 q1,hs1 q2⟩
end Go.Proofs.YtocilianjfhifaaGreatDoor.Cov
/- Empty of both sides; no condition but the variables that are laid and the bounds on lengths. -/
set_option linter.unusedSimpArgs false
set_option maxRecDepth 8000
namespace Go.Proofs.YtocilianjfhifaaGreatDoor.Cov
open Go Go.Proofs Go.Proofs.YtocilianjfhifaaGreatDoor.Sm Go.Proofs.YtocilianjfhifaaGreatDoor.Bins Go.RowKit

theorem NU {E:Env} {f:FuncId} {args:List AV} {h:Hp} {r:AV} (d:Nat) (hr : ∀ n H,JF n H d r=r) (hc:ACalls E f args h fun v H=>v=r∧ext h H):PCall E f args h r :=
 ACalls.pure d hc fun v H ⟨e,he⟩=>⟨he,by rw [e]; exact hr _ _⟩
def emV (m:Mo):Cvr:=if FU m=0 then J6 m else zV
def emT (m:Mo):Tk:=if FU m=0 then ⟨nm (zLs m),zLs m⟩ else zT
def ARY (m:Mo):Tk:=if FU m=0 then ⟨.full,zLs m⟩ else zT
structure Ee (h H:Hp) (m:Mo) (b2 b3:Nat):Prop where
 gm:H[h.length]? = some (ABlk.live 2 [DU m])
 g2:H[b2]? = some (ABlk.live 4 [GI])
 g3:H[b3]? = some (ABlk.live 1 [JP])
 o2:h.length < b2
 o3:b2 < b3
 hx:ext h H
theorem Ee.mk' (h:Hp) (m:Mo):Ee h (h ++ [ABlk.live 2 [DU m]] ++ [ABlk.live 4 [GI]] ++ [ABlk.live 1 [JP]]) m (h ++ [ABlk.live 2 [DU m]]).length (h ++ [ABlk.live 2 [DU m]] ++ [ABlk.live 4 [GI]]).length :=
 ⟨DL (DL (CX _ _)),DL (CX _ _),CX _ _,by simp,by simp,(((ext.rfl' h).app _).app _).app _⟩
theorem Ee.lt {h H:Hp} {m:Mo} {b2 b3:Nat} (E:Ee h H m b2 b3):b3 < H.length:=CJ E.g3
theorem Ee.m0 {h H:Hp} {m:Mo} {b2 b3:Nat} (E:Ee h H m b2 b3):EE Tryz.prog H 22 (.ptr h.length 0 0)=some (.sl m.pm 6 (m.pts.map IM)):=by rw [D6 VN E.gm (row:=DU m) rfl,QK]
/-- what is laid of an Empty's results, above what was -/
theorem AUD (H0:Hp) (c:Cvr) (t:Tk) :
  GG Tryz.prog (H0 ++ [ABlk.live 4 [GI]] ++ [ABlk.live 1 [JP]]) 28 (.ptr H0.length 0 0) (.agg (EF c))=some ((H0 ++ [ABlk.live 4 [GI]] ++ [ABlk.live 1 [JP]]).set H0.length (ABlk.live 4 [EF c])) ∧
  GG Tryz.prog ((H0 ++ [ABlk.live 4 [GI]] ++ [ABlk.live 1 [JP]]).set H0.length (ABlk.live 4 [EF c])) 47 (.ptr (H0 ++ [ABlk.live 4 [GI]]).length 0 0) (.agg (OL t))=some (((H0 ++ [ABlk.live 4 [GI]] ++ [ABlk.live 1 [JP]]).set H0.length (ABlk.live 4 [EF c])).set (H0 ++ [ABlk.live 4 [GI]]).length (ABlk.live 1 [OL t])) ∧
  (((H0 ++ [ABlk.live 4 [GI]] ++ [ABlk.live 1 [JP]]).set H0.length (ABlk.live 4 [EF c])).set (H0 ++ [ABlk.live 4 [GI]]).length (ABlk.live 1 [OL t]))[H0.length]? = some (ABlk.live 4 [EF c]) ∧
  (((H0 ++ [ABlk.live 4 [GI]] ++ [ABlk.live 1 [JP]]).set H0.length (ABlk.live 4 [EF c])).set (H0 ++ [ABlk.live 4 [GI]]).length (ABlk.live 1 [OL t]))[(H0 ++ [ABlk.live 4 [GI]]).length]? = some (ABlk.live 1 [OL t]) ∧
  ext H0 (((H0 ++ [ABlk.live 4 [GI]] ++ [ABlk.live 1 [JP]]).set H0.length (ABlk.live 4 [EF c])).set (H0 ++ [ABlk.live 4 [GI]]).length (ABlk.live 1 [OL t])) :=
 ⟨stV (DL (CX _ _)) rfl,stT (EX (CX _ _) (by simp)) rfl,EX (EM (DL (CX _ _))) (by simp),EM (EX (CX _ _) (by simp)),((((ext.rfl' H0).app _).app _).set (Nat.le_refl _) _).set (by simp) _⟩
theorem IZ {h H:Hp} {b:Nat} {x:ABlk} (he:ext h H) (hb:h[b]? = some x):H[b]? = some x:=by
 obtain ⟨y,rfl⟩:=he
 exact IW hb
theorem ARQ (e:Int):CvR (.tup [.agg GI,.agg JP,.int .i64 e]) (.tup [.agg (EF zV),.agg (OL zT),.int .i64 e]):=CvR.tup (CvRL.cons APW (CvRL.cons AYI (CvRL.refl _)))
set_option maxHeartbeats 1000000 in
theorem WS (G:Nat→AV) (hG:GOk G) (m:Mo) (hm:MoOk m) (h:Hp):PCall (En G) 67 [.agg (DU m)] h (.tup [.agg (EF (emV m)),.agg (OL (emT m)),.int .i64 (FU m)]):=by
 by_cases h0:FU m=0
 ·have hb:(FU m == 0)=true:=by simpa using h0
  unfold emV emT
  rw [if_pos h0,if_pos h0]
  have hg:=J4 h0
  refine NU 3 (fun n H=>rfl) ?_
  refine CG (H:=Hint.none) (enM G) Tryz.func67 rfl (by kernel_rfl) (by kernel_rfl) (Nat.le_of_ble_eq_true (by kernel_rfl)) ?_
  show awp _ _ _ _ _ (EU _ [.cell 2 28,.cell 3 47,.tmp 4] _)
  have E:=Ee.mk' h m
  simp -implicitDefEqProofs only [BB,AZ,A8,AY,BC,AO,AQ,AL,BD,AX,AC,AA,A7,AU,BH,BA,FW,FK,BO,BR,BG,↓reduceIte,Nat.reduceEqDiff,Option.getD_some,Bool.not_false,enP,bxM,MF,ADQ]
  generalize h ++ [ABlk.live 2 [DU m]] ++ [ABlk.live 4 [GI]] ++ [ABlk.live 1 [JP]]=H0 at E ⊢
  generalize (h ++ [ABlk.live 2 [DU m]] ++ [ABlk.live 4 [GI]]).length=b3 at E ⊢
  generalize (h ++ [ABlk.live 2 [DU m]]).length=b2 at E ⊢
  have o2:=E.o2; have o3:=E.o3; have hlt:=E.lt
  simp -implicitDefEqProofs only [AY,AO,AQ,AL,BD,AX,AC,AA,A7,CB,CE,BX,AB,List.map_cons,List.map_nil,List.append_nil,↓reduceIte,Option.getD_some,Bool.not_false,ldM E.gm]
  refine (WB G hG m hm _).use ?_
  simp -implicitDefEqProofs only [BB,AZ,BN,BI,A8,DY,AY,BC,AO,AQ,AL,BD,AX,AC,AA,A7,AU,CB,BH,BF,BA,BO,BQ,CE,BX,AB,EQ,List.map_cons,List.map_nil,List.append_nil,↓reduceIte,Nat.reduceEqDiff,Option.getD_some,Bool.not_true,Bool.not_false,enP,bne,hb,ldM E.gm]
  refine (AK1 G m hm hg _).use ?_
  obtain ⟨s1,s2,g6,g7,hx5⟩:=AUD H0 (J6 m) ⟨nm (zLs m),zLs m⟩
  have g2:=IZ hx5 E.g2
  have g3:=IZ hx5 E.g3
  have hx:=E.hx.trans hx5
  have h7:b2 < (H0 ++ [ABlk.live 4 [GI]]).length:=by simp; omega
  simp -implicitDefEqProofs only [List.getElem?_cons_zero,List.getElem?_cons_succ,BB,A8,AY,BC,AO,AQ,AL,BD,AX,AC,EZ,AA,A7,BF,FW,EI,ET,FX,BR,AB,DR,↓reduceIte,Nat.reduceEqDiff,Option.getD_some,Bool.not_false,enP,Option.getD_none,MF,ADQ,s1,s2]
  generalize ((H0 ++ [ABlk.live 4 [GI]] ++ [ABlk.live 1 [JP]]).set H0.length (ABlk.live 4 [EF (J6 m)])).set (H0 ++ [ABlk.live 4 [GI]]).length (ABlk.live 1 [OL ⟨nm (zLs m),zLs m⟩])=H5 at g6 g7 g2 g3 hx ⊢
  generalize (H0 ++ [ABlk.live 4 [GI]]).length=b7 at g7 h7 ⊢
  refine YS [(7,2)] (by kernel_rfl) ?_ ?_
  ·simp -implicitDefEqProofs only [AA,↓reduceIte,Nat.reduceEqDiff,YY,ACX,AAY,and_true]
   omega
  simp -implicitDefEqProofs only [F7,D9,DT,MX,E8,EC,IQ,FC,MQ,BM,A8,AO,AA,A7,AU,BH,BO,EI,AB,DR,↓reduceIte,Nat.reduceEqDiff,Nat.reduceAdd,Nat.zero_add,Option.getD_some,enP,Option.getD_none,ldV g6,ldT g7,stV g2 rfl,stT (EX g3 (show b3≠b2 by omega)) rfl]
  rw [AAJ (ba:=b2) (bb:=b3) (by simp -implicitDefEqProofs only [AA,↓reduceIte,Nat.reduceEqDiff]) (by simp -implicitDefEqProofs only [AA,↓reduceIte,Nat.reduceEqDiff]) (ldV (EX (EM g2) (show b2≠b3 by omega))) (ldT (EM (EX g3 (show b3≠b2 by omega))))]
  exact ⟨by simp -implicitDefEqProofs only [AA,↓reduceIte,h0],(hx.set (by omega) _).set (by omega) _⟩
 ·have hb:(FU m == 0)=false:=by simpa using h0
  unfold emV emT
  rw [if_neg h0,if_neg h0]
  refine PCall.res ?_ (ARQ _)
  refine NU 3 (fun n H=>rfl) ?_
  refine CG (H:=Hint.none) (enM G) Tryz.func67 rfl (by kernel_rfl) (by kernel_rfl) (Nat.le_of_ble_eq_true (by kernel_rfl)) ?_
  show awp _ _ _ _ _ (EU _ [.cell 2 28,.cell 3 47,.tmp 4] _)
  have E:=Ee.mk' h m
  simp -implicitDefEqProofs only [BB,AZ,A8,AY,BC,AO,AQ,AL,BD,AX,AC,AA,A7,AU,BH,BA,FW,FK,BO,BR,BG,↓reduceIte,Nat.reduceEqDiff,Option.getD_some,Bool.not_false,enP,bxM,MF,ADQ]
  generalize h ++ [ABlk.live 2 [DU m]] ++ [ABlk.live 4 [GI]] ++ [ABlk.live 1 [JP]]=H0 at E ⊢
  generalize (h ++ [ABlk.live 2 [DU m]] ++ [ABlk.live 4 [GI]]).length=b3 at E ⊢
  generalize (h ++ [ABlk.live 2 [DU m]]).length=b2 at E ⊢
  have o2:=E.o2; have o3:=E.o3; have hlt:=E.lt
  simp -implicitDefEqProofs only [AY,AO,AQ,AL,BD,AX,AC,AA,A7,CB,CE,BX,AB,List.map_cons,List.map_nil,List.append_nil,↓reduceIte,Option.getD_some,Bool.not_false,ldM E.gm]
  refine (WB G hG m hm _).use ?_
  simp -implicitDefEqProofs only [FP,BB,AZ,BM,BI,A8,CS,DX,AY,BC,AO,AQ,AL,BD,AX,AC,EZ,AA,A7,AU,BH,BF,BA,JI,EI,BQ,AB,DR,EQ,↓reduceIte,Nat.reduceEqDiff,Option.getD_some,Bool.not_false,enP,Option.getD_none,bne,hb,VZ,AWP,stZ E.g2 rfl,AVW (EX E.g3 (show b3≠b2 by omega)) rfl]
  rw [AAJ (ba:=b2) (bb:=b3) (by simp -implicitDefEqProofs only [AA,↓reduceIte,Nat.reduceEqDiff]) (by simp -implicitDefEqProofs only [AA,↓reduceIte,Nat.reduceEqDiff]) (MV (EX (EM E.g2) (show b2≠b3 by omega)) rfl) (XC (EM (EX E.g3 (show b3≠b2 by omega))) rfl)]
  exact ⟨by simp -implicitDefEqProofs only [AA,↓reduceIte],(E.hx.set (by omega) _).set (by omega) _⟩
theorem AYU (h:Hp) (m:Mo) (hn:m.pts.length≤1048576):JD Tryz.prog false h 26 (.int .i64 (m.pts.length:Int)) (.int .i64 (m.pts.length:Int))=some (.sl .full 1 (m.pts.map fun _=>JP),h):=by
 have hz:NM Tryz.prog 57=some JP:=by kernel_rfl
 have hr:room m.pts.length 24:=KO (by omega) (by omega)
 unfold JD
 simp only [AGZ,AC3,AJB,hz,Int.toNat_natCast]
 rw [if_pos ⟨by omega,Int.le_refl _,hr,rfl⟩]
 simp [List.map_const']
theorem AZP (xs:List (List AV)):KN Tryz.prog 47 [(0,.sl .full 1 xs)]=some (.agg [.sl .full 1 xs]):=by kernel_rfl
set_option maxHeartbeats 1000000 in
theorem APP (G:Nat→AV) (m:Mo) (hm:MoOk m) (h:Hp):PCall (En G) 40 [.agg (DU m)] h (.tup [.agg (EF (emV m)),.agg (OL (ARY m)),.int .i64 (FU m)]):=by
 by_cases h0:FU m=0
 ·have hb:(FU m == 0)=true:=by simpa using h0
  unfold emV ARY
  rw [if_pos h0,if_pos h0]
  have hg:=J4 h0
  refine PCall.res (r := .tup [.agg (EF (J6 m)),.agg [.sl .full 1 (m.pts.map fun _=>JP)],.int .i64 (FU m)]) ?_ (CvR.tup (CvRL.cons (CvR.refl _) (CvRL.cons (CvR.agg (CvRL.cons (CvR.sl (AMD m.pts)) CvRL.nil)) (CvRL.refl _))))
  refine NU 3 (fun n H=>rfl) ?_
  refine CG (H:=Hint.none) (enM G) Tryz.func40 rfl (by kernel_rfl) (by kernel_rfl) (Nat.le_of_ble_eq_true (by kernel_rfl)) ?_
  show awp _ _ _ _ _ (EU _ [.cell 2 28,.cell 3 47,.tmp 4] _)
  have E:=Ee.mk' h m
  simp -implicitDefEqProofs only [BB,AZ,A8,AY,BC,AO,AQ,AL,BD,AX,AC,AA,A7,AU,BH,BA,FW,FK,BO,BR,BG,↓reduceIte,Nat.reduceEqDiff,Option.getD_some,Bool.not_false,enP,bxM,MF,ADQ]
  generalize h ++ [ABlk.live 2 [DU m]] ++ [ABlk.live 4 [GI]] ++ [ABlk.live 1 [JP]]=H0 at E ⊢
  generalize (h ++ [ABlk.live 2 [DU m]] ++ [ABlk.live 4 [GI]]).length=b3 at E ⊢
  generalize (h ++ [ABlk.live 2 [DU m]]).length=b2 at E ⊢
  have o2:=E.o2; have o3:=E.o3; have hlt:=E.lt
  simp -implicitDefEqProofs only [AY,AO,AQ,AL,BD,AX,AC,AA,A7,CB,CE,BX,AB,List.map_cons,List.map_nil,List.append_nil,↓reduceIte,Option.getD_some,Bool.not_false,ldM E.gm]
  refine (PZ G m hm _).use ?_
  simp -implicitDefEqProofs only [BB,AZ,BN,BI,A8,DY,AY,BC,AO,AQ,AL,BD,AX,AC,AA,A7,AU,BH,BF,BA,BQ,AB,EQ,↓reduceIte,Option.getD_some,Bool.not_true,Bool.not_false,enP,bne,hb]
  refine YS [(15,2),(1,2)] (by kernel_rfl) ?_ ?_
  ·simp -implicitDefEqProofs only [AA,BV,AIG,↓reduceIte,Nat.reduceEqDiff,YY,ACX,AAY,AW8,and_true,true_and]
   omega
  simp -implicitDefEqProofs only [F7,D9,DT,EC,FC,D5,GM,F6,AO,AA,A7,CB,BO,BJ,AB,List.map_cons,List.map_nil,List.append_nil,↓reduceIte,Nat.reduceEqDiff,Nat.reduceAdd,Nat.add_zero,Option.getD_some,enP,IG,ldM E.gm]
  refine ⟨_,AO2 G m hm hg _,?_⟩
  try simp -implicitDefEqProofs only [F7,FP,FZ,D9,DT,MX,E8,EC,IQ,AE7,MQ,O8,GV,BM,A8,AO,AA,A7,AU,BH,JI,EI,JV,DN,BR,AB,DR,↓reduceIte,Nat.reduceEqDiff,Nat.reduceAdd,Nat.zero_add,Option.getD_some,enP,QE,Option.getD_none,E.m0,List.length_map,AYU _ m hm.np,AZP,stV E.g2 rfl,AVX (v3 := .sl .full 1 (m.pts.map fun _=>JP)) (EX E.g3 (show b3≠b2 by omega)) rfl rfl]
  rw [AAJ (ba:=b2) (bb:=b3) (by simp -implicitDefEqProofs only [AA,↓reduceIte,Nat.reduceEqDiff]) (by simp -implicitDefEqProofs only [AA,↓reduceIte,Nat.reduceEqDiff]) (ldV (EX (EM E.g2) (show b2≠b3 by omega))) (XC (EM (EX E.g3 (show b3≠b2 by omega))) rfl)]
  exact ⟨by simp -implicitDefEqProofs only [AA,↓reduceIte,h0],(E.hx.set (by omega) _).set (by omega) _⟩
 ·have hb:(FU m == 0)=false:=by simpa using h0
  unfold emV ARY
  rw [if_neg h0,if_neg h0]
  refine PCall.res ?_ (ARQ _)
  refine NU 3 (fun n H=>rfl) ?_
  refine CG (H:=Hint.none) (enM G) Tryz.func40 rfl (by kernel_rfl) (by kernel_rfl) (Nat.le_of_ble_eq_true (by kernel_rfl)) ?_
  show awp _ _ _ _ _ (EU _ [.cell 2 28,.cell 3 47,.tmp 4] _)
  have E:=Ee.mk' h m
  simp -implicitDefEqProofs only [BB,AZ,A8,AY,BC,AO,AQ,AL,BD,AX,AC,AA,A7,AU,BH,BA,FW,FK,BO,BR,BG,↓reduceIte,Nat.reduceEqDiff,Option.getD_some,Bool.not_false,enP,bxM,MF,ADQ]
  generalize h ++ [ABlk.live 2 [DU m]] ++ [ABlk.live 4 [GI]] ++ [ABlk.live 1 [JP]]=H0 at E ⊢
  generalize (h ++ [ABlk.live 2 [DU m]] ++ [ABlk.live 4 [GI]]).length=b3 at E ⊢
  generalize (h ++ [ABlk.live 2 [DU m]]).length=b2 at E ⊢
  have o2:=E.o2; have o3:=E.o3; have hlt:=E.lt
  simp -implicitDefEqProofs only [AY,AO,AQ,AL,BD,AX,AC,AA,A7,CB,CE,BX,AB,List.map_cons,List.map_nil,List.append_nil,↓reduceIte,Option.getD_some,Bool.not_false,ldM E.gm]
  refine (PZ G m hm _).use ?_
  simp -implicitDefEqProofs only [FP,BB,AZ,BM,BI,A8,CS,DX,AY,BC,AO,AQ,AL,BD,AX,AC,EZ,AA,A7,AU,BH,BF,BA,JI,EI,BQ,AB,DR,EQ,↓reduceIte,Nat.reduceEqDiff,Option.getD_some,Bool.not_false,enP,Option.getD_none,bne,hb,VZ,AWP,stZ E.g2 rfl,AVW (EX E.g3 (show b3≠b2 by omega)) rfl]
  rw [AAJ (ba:=b2) (bb:=b3) (by simp -implicitDefEqProofs only [AA,↓reduceIte,Nat.reduceEqDiff]) (by simp -implicitDefEqProofs only [AA,↓reduceIte,Nat.reduceEqDiff]) (MV (EX (EM E.g2) (show b2≠b3 by omega)) rfl) (XC (EM (EX E.g3 (show b3≠b2 by omega))) rfl)]
  exact ⟨by simp -implicitDefEqProofs only [AA,↓reduceIte],(E.hx.set (by omega) _).set (by omega) _⟩
end Go.Proofs.YtocilianjfhifaaGreatDoor.Cov
/- merge.merge, and the reference's Merge; no condition but the variables that are laid and the bounds on lengths. -/
set_option linter.unusedSimpArgs false
set_option maxRecDepth 8000
namespace Go.Proofs.YtocilianjfhifaaGreatDoor.Cov
open Go Go.Proofs Go.Proofs.YtocilianjfhifaaGreatDoor.Sm Go.Proofs.YtocilianjfhifaaGreatDoor.Bins Go.RowKit

theorem Q8 (h:Hp) (v:Cvr):GG Tryz.prog (h ++ [ABlk.live 4 [GI]]) 28 (.ptr h.length 0 0) (.agg (EF v))=some (h ++ [ABlk.live 4 [EF v]]):=by rw [stV (CX _ _) rfl,QV]
theorem AZQ (s t:SM) (xs ys:List (List AV)) (a b:Int):KN Tryz.prog 28 [(0,.sl s 1 xs),(1,.sl t 1 ys),(2,.int .i64 a),(3,.int .i64 b)]=some (.agg [.sl s 1 xs,.sl t 1 ys,.int .i64 a,.int .i64 b]):=by kernel_rfl
theorem AEG (l:List Cvr) (e:Cvr) (i:Nat) (hi:i < l.length):(l.take (i+1)).foldl O1 e=O1 ((l.take i).foldl O1 e) l[i]:=by
 rw [List.take_succ_eq_append_getElem hi,List.foldl_append]; rfl
structure Mg (h H:Hp) (b4 b5:Nat) (c:Cvr):Prop where
 g4:H[b4]? = some (ABlk.live 4 [GI])
 g5:H[b5]? = some (ABlk.live 4 [EF c])
 o4:h.length < b4
 o5:b4 < b5
 hx:ext h H
set_option maxHeartbeats 2000000 in
theorem AKK (G:Nat→AV) (m:Mo) (e:Cvr) (l:List Cvr) (s:SM) (h:Hp) (he:FN m e=true) (hl : ∀ v∈l,FN m v=true) (hn:l.length≤1048576):PCall (En G) 85 [.agg (EF e),.sl s 4 (l.map EF)] h (.agg (EF (l.foldl O1 e))):=by
 refine NU 2 (fun n H=>rfl) ?_
 refine CG (H:=Hint.none) (enM G) Tryz.func85 rfl (by kernel_rfl) (by kernel_rfl) (Nat.le_of_ble_eq_true (by kernel_rfl)) ?_
 show awp _ _ _ _ _ (EU _ [.cell 4 28] _)
 have E:Mg h (h ++ [ABlk.live 4 [EF e]] ++ [ABlk.live 4 [GI]] ++ [ABlk.live 4 [EF e]]) (h ++ [ABlk.live 4 [EF e]]).length (h ++ [ABlk.live 4 [EF e]] ++ [ABlk.live 4 [GI]]).length e :=
  ⟨DL (CX _ _),CX _ _,by simp,by simp,(((ext.rfl' h).app _).app _).app _⟩
 have g1:(h ++ [ABlk.live 4 [EF e]] ++ [ABlk.live 4 [GI]])[h.length]? = some (ABlk.live 4 [EF e]):=DL (CX _ _)
 simp -implicitDefEqProofs only [BB,BP,AZ,A8,AY,BC,AO,AQ,AL,BD,AX,AC,EZ,AA,A7,AU,BH,BF,FW,FK,BO,EI,DN,BR,AB,DR,BG,BV,↓reduceIte,Nat.reduceEqDiff,Option.getD_some,Bool.not_false,enP,TU,Option.getD_none,bxV,MF,ldV g1,Q8,List.length_map]
 generalize h ++ [ABlk.live 4 [EF e]] ++ [ABlk.live 4 [GI]] ++ [ABlk.live 4 [EF e]]=H0 at E ⊢
 generalize (h ++ [ABlk.live 4 [EF e]] ++ [ABlk.live 4 [GI]]).length=b5 at E ⊢
 generalize (h ++ [ABlk.live 4 [EF e]]).length=b4 at E ⊢
 refine C9 (fun n F H => ∃ i,n+i=l.length∧F 4 = .ptr b4 0 0∧F 5 = .ptr b5 0 0∧F 9 = .sl s 4 (l.map EF)∧F 10 = .int .i64 l.length∧F 11 = .int .i64 (i:Nat)∧Mg h H b4 b5 ((l.take i).foldl O1 e)) l.length ⟨0,by simp,by simp -implicitDefEqProofs only [AA,↓reduceIte,Nat.reduceEqDiff],by simp -implicitDefEqProofs only [AA,↓reduceIte,Nat.reduceEqDiff],by simp -implicitDefEqProofs only [AA,↓reduceIte,Nat.reduceEqDiff],by simp -implicitDefEqProofs only [AA,↓reduceIte,Nat.reduceEqDiff],by simp -implicitDefEqProofs only [AA,↓reduceIte]; rfl,by rw [List.take_zero]; exact E⟩ ?_
 clear E g1
 rintro n F H ⟨i,hi,f4,f5,f9,f10,f11,E⟩
 have o4:=E.o4; have o5:=E.o5
 simp -implicitDefEqProofs only [BB,AZ,BI,A8,AY,BC,AO,AQ,AL,BD,AX,AC,AA,A7,BQ,AB,CW,↓reduceIte,Option.getD_some,Bool.not_false,enP,f10,f11]
 refine CQ (fun hc => ?_) (fun hc => ?_)
 ·have hi':i < l.length:=by simpa using hc
  have hs:=AEG l e i hi'
  have hc1:=VD (l.take i) e he (fun v hv=>hl v (List.mem_of_mem_take hv))
  have hv1:=hl _ (List.getElem_mem hi')
  generalize (l.take i).foldl O1 e=c at hs hc1 E
  have gc:(H ++ [ABlk.live 4 [EF l[i]]])[b5]? = some (ABlk.live 4 [EF c]):=DL E.g5
  have gv:=CX H (ABlk.live 4 [EF l[i]])
  have w1:=JW.1 (JG.1 hc1).2.2.2.1
  simp -implicitDefEqProofs only [BB,BP,AZ,BN,A8,AY,BC,AO,AQ,AL,BD,AX,AC,EZ,AA,A7,FW,BO,EI,BZ,BR,AB,DR,↓reduceIte,Nat.reduceEqDiff,Option.getD_some,Bool.not_false,enP,AFR,Option.getD_none,f9,f11,DJ hi',FD ACR TS MC hi',MF,Q8]
  refine ER (by kernel_rfl) ?_
  simp -implicitDefEqProofs only [F7,D9,DT,EC,FC,D5,GM,F6,AO,AA,A7,CB,BO,BJ,AB,List.map_cons,List.map_nil,List.append_nil,↓reduceIte,Nat.reduceEqDiff,Nat.reduceAdd,Nat.add_zero,Nat.zero_add,Option.getD_some,enP,OY,NS,f5,lv0 gc,lv0 gv]
  refine ⟨_,ABH G _ _ _ _ _ (AL1 hc1 hv1),?_⟩
  try simp -implicitDefEqProofs only [F7,D9,DT,EC,FC,D5,GM,F6,AO,AA,A7,CB,BO,BJ,AB,List.map_cons,List.map_nil,List.append_nil,↓reduceIte,Nat.reduceEqDiff,Nat.reduceAdd,Nat.zero_add,Option.getD_some,enP,NS,YL,f5,lv1 gc,lv1 gv]
  refine ⟨_,ABH G _ _ _ _ _ (AL2 hc1 hv1),?_⟩
  try simp -implicitDefEqProofs only [F7,D9,DT,EC,FC,D5,GM,F6,AO,AA,A7,CB,BO,BJ,AB,List.map_cons,List.map_nil,List.append_nil,↓reduceIte,Nat.reduceEqDiff,Nat.reduceAdd,Nat.zero_add,Option.getD_some,enP,YL,AB3,f5,lv2 gc,lv2 gv]
  refine ⟨_,ACU G _ _ _ (JG.1 hc1).2.2.2.1 (JG.1 hv1).2.2.2.1,?_⟩
  try simp -implicitDefEqProofs only [F7,FP,FZ,D9,DT,EC,AE7,FC,D5,GM,F6,AO,AA,A7,CB,JI,BO,BJ,AB,List.map_cons,List.map_nil,List.append_nil,↓reduceIte,Nat.reduceEqDiff,Nat.reduceAdd,Nat.zero_add,Option.getD_some,enP,AB3,f5,lv3 gc,lv3 gv]
  refine ⟨_,ACU G _ _ _ (JG.1 hc1).2.2.2.2 (JG.1 hv1).2.2.2.2,?_⟩
  have hst:=stV (v:=O1 c l[i]) gc rfl
  have hst':GG Tryz.prog (H ++ [ABlk.live 4 [EF l[i]]]) 28 (.ptr b5 0 0) (.agg [.sl (nm (KL c.pts l[i].pts)) 1 ((KL c.pts l[i].pts).map HY),.sl (nm (KL c.crs l[i].crs)) 1 ((KL c.crs l[i].crs).map HY),.int .i64 (UY c.sam l[i].sam),.int .i64 (UY c.ill l[i].ill)])=some ((H ++ [ABlk.live 4 [EF l[i]]]).set b5 (ABlk.live 4 [EF (O1 c l[i])])):=hst
  try simp -implicitDefEqProofs only [F7,D9,DT,MX,E8,EC,MQ,AZ,A8,D8,ED,AY,BC,AO,AQ,AL,BD,AX,AC,AA,A7,AU,BH,BF,EI,BQ,AB,DR,CZ,↓reduceIte,Nat.reduceEqDiff,Nat.zero_add,Option.getD_some,Bool.not_false,enP,Option.getD_none,AZQ,f5,hst',f11,wrap_succ (show i < 9223372036854775807 by omega)]
  refine ⟨n - 1,by omega,i+1,by omega,f4,trivial,f9,f10,rfl,?_⟩
  rw [hs]
  exact ⟨EX (DL E.g4) (by omega),EM gc,o4,o5,(E.hx.app _).set (by omega) _⟩
 ·have hi' : ¬ i < l.length:=by simpa using hc
  rw [List.take_of_length_le (by omega)] at E
  simp -implicitDefEqProofs only [BB,AZ,BM,DC,A8,DZ,EN,EP,AY,BC,AO,AQ,AL,BD,AX,AC,EZ,AA,A7,BO,EI,AB,DR,↓reduceIte,Nat.reduceEqDiff,Option.getD_some,Bool.not_false,enP,Option.getD_none,f4,f5,ldV E.g5,stV E.g4 rfl]
  rw [AB6 (b:=b4) (by simp -implicitDefEqProofs only [AA,↓reduceIte,Nat.reduceEqDiff,f4]) (ldV (EM E.g4))]
  exact ⟨rfl,E.hx.set (by omega) _⟩
/-- what the reference's Merge returns -/
def AFI (m:Mo) (a b:Cvr):List AV:=if PN m [a,b]=0 then EF (O1 a b) else GI
theorem ATJ (m:Mo) (a b:Cvr) (e:Int):CvR (.tup [.agg (AFI m a b),.int .i64 e]) (.tup [.agg (EF (AOJ m a b)),.int .i64 e]):=by
 unfold AFI AOJ
 split
 ·exact CvR.refl _
 ·exact CvR.tup (CvRL.cons APW (CvRL.refl _))
theorem ACP {m:Mo} {l:List Cvr} (h:FU m≠0):PN m l=FU m:=by unfold PN; rw [if_neg h]
theorem UU {m:Mo} {l:List Cvr} (h:FU m=0) {v:Cvr} (hv:v∈l) (hf:FN m v=false):PN m l=1:=by
 unfold PN
 rw [if_pos h,if_neg]
 intro e
 rw [List.all_eq_true.1 e v hv] at hf
 cases hf
structure Mr (h H:Hp) (m:Mo) (a b:Cvr) (b4 b5 b6:Nat):Prop where
 gm:H[h.length]? = some (ABlk.live 2 [DU m])
 ga:H[b4]? = some (ABlk.live 4 [EF a])
 gb:H[b5]? = some (ABlk.live 4 [EF b])
 g6:H[b6]? = some (ABlk.live 4 [GI])
 o4:h.length < b4
 o5:b4 < b5
 o6:b5 < b6
 hx:ext h H
theorem Mr.mk' (h:Hp) (m:Mo) (a b:Cvr):Mr h (h ++ [ABlk.live 2 [DU m]] ++ [ABlk.live 4 [EF a]] ++ [ABlk.live 4 [EF b]] ++ [ABlk.live 4 [GI]]) m a b (h ++ [ABlk.live 2 [DU m]]).length (h ++ [ABlk.live 2 [DU m]] ++ [ABlk.live 4 [EF a]]).length (h ++ [ABlk.live 2 [DU m]] ++ [ABlk.live 4 [EF a]] ++ [ABlk.live 4 [EF b]]).length :=
 ⟨DL (DL (DL (CX _ _))),DL (DL (CX _ _)),DL (CX _ _),CX _ _,by simp,by simp,by simp,((((ext.rfl' h).app _).app _).app _).app _⟩
theorem AQH (m:Mo) (a b:Cvr) (e:Int) (n:Nat) (H:Hp):JF n H 3 (.tup [.agg (AFI m a b),.int .i64 e]) = .tup [.agg (AFI m a b),.int .i64 e]:=by
 unfold AFI; split <;> rfl
set_option maxHeartbeats 1000000 in
theorem APN (G:Nat→AV) (m:Mo) (a b:Cvr) (hm:MoOk m) (ha:CvOk a) (hb:CvOk b) (h:Hp):PCall (En G) 38 [.agg (DU m),.agg (EF a),.agg (EF b)] h (.tup [.agg (EF (AOJ m a b)),.int .i64 (PN m [a,b])]):=by
 refine PCall.res ?_ (ATJ m a b _)
 refine NU 3 (AQH m a b _) ?_
 refine CG (H:=Hint.none) (enM G) Tryz.func38 rfl (by kernel_rfl) (by kernel_rfl) (Nat.le_of_ble_eq_true (by kernel_rfl)) ?_
 show awp _ _ _ _ _ (EU _ [.cell 6 28,.tmp 7] _)
 have t:=Mr.mk' h m a b
 simp -implicitDefEqProofs only [BB,AZ,A8,AY,BC,AO,AQ,AL,BD,AX,AC,AA,A7,AU,BH,BA,FW,FK,BO,BR,BG,BV,↓reduceIte,Nat.reduceEqDiff,Option.getD_some,Bool.not_false,enP,bxM,bxV,MF]
 generalize h ++ [ABlk.live 2 [DU m]] ++ [ABlk.live 4 [EF a]] ++ [ABlk.live 4 [EF b]] ++ [ABlk.live 4 [GI]]=H at t ⊢
 generalize (h ++ [ABlk.live 2 [DU m]] ++ [ABlk.live 4 [EF a]] ++ [ABlk.live 4 [EF b]]).length=b6 at t ⊢
 generalize (h ++ [ABlk.live 2 [DU m]] ++ [ABlk.live 4 [EF a]]).length=b5 at t ⊢
 generalize (h ++ [ABlk.live 2 [DU m]]).length=b4 at t ⊢
 have o4:=t.o4; have o5:=t.o5; have o6:=t.o6
 simp -implicitDefEqProofs only [AY,AO,AQ,AL,BD,AX,AC,AA,A7,CB,CE,BX,AB,List.map_cons,List.map_nil,List.append_nil,↓reduceIte,Option.getD_some,Bool.not_false,ldM t.gm]
 refine (PZ G m hm _).use ?_
 simp -implicitDefEqProofs only [BB,AZ,BI,A8,AY,BC,AO,AQ,AL,BD,AX,AC,AA,A7,AU,BH,BF,BA,BQ,AB,EQ,↓reduceIte,Option.getD_some,Bool.not_false,enP,bne]
 cases h1:(FU m == 0)
 ·have h1':FU m≠0:=by simpa using h1
  have hne:=ACP (l := [a,b]) h1'
  simp -implicitDefEqProofs only [FP,BB,AZ,BM,A8,CS,DX,AY,BC,AO,AQ,AL,BD,AX,AC,EZ,AA,A7,BF,BA,JI,EI,AB,DR,↓reduceIte,Nat.reduceEqDiff,Option.getD_some,Bool.not_false,enP,Option.getD_none,VZ,stZ t.g6 rfl]
  rw [O6 (ba:=b6) (by simp -implicitDefEqProofs only [AA,↓reduceIte,Nat.reduceEqDiff]) (MV (EM t.g6) rfl)]
  exact ⟨by simp -implicitDefEqProofs only [AA,↓reduceIte,hne]; unfold AFI; rw [hne,if_neg h1'],t.hx.set (by omega) _⟩
 have h1':FU m=0:=by simpa using h1
 have bad:FN m a=false∨FN m b=false→PN m [a,b]=1:=fun hh=>by
  rcases hh with hh | hh
  ·exact UU h1' (v:=a) (by simp) hh
  ·exact UU h1' (v:=b) (by simp) hh
 have badR:FN m a=false∨FN m b=false→AFI m a b=GI:=fun hh=>by
  unfold AFI; rw [bad hh]; rfl
 simp -implicitDefEqProofs only [BB,AZ,BN,A8,DY,AY,AO,AQ,AL,BD,AX,AC,AA,A7,CB,BO,CE,BX,AB,List.map_cons,List.map_nil,List.append_nil,↓reduceIte,Nat.reduceEqDiff,Option.getD_some,Bool.not_true,Bool.not_false,enP,ldM t.gm,ldV t.ga]
 refine (UN G m a hm ha _).use ?_
 simp -implicitDefEqProofs only [AY,BK,BU,CO,AO,AQ,AL,BD,AX,AC,AA,A7,BF,H9,AB,FB,↓reduceIte,Option.getD_some,Bool.not_false]
 cases h2:FN m a
 ·simp -implicitDefEqProofs only [FP,BB,AZ,BM,BI,A8,CS,DX,AY,BC,BK,BU,CO,F5,AO,AQ,AL,BD,AX,AC,EZ,AA,EY,A7,AU,BH,BL,BA,CP,DW,JI,EI,AB,DR,↓reduceIte,Nat.reduceEqDiff,Option.getD_some,Bool.not_false,enP,Option.getD_none,VZ,stZ t.g6 rfl]
  rw [O6 (ba:=b6) (by simp -implicitDefEqProofs only [AA,↓reduceIte,Nat.reduceEqDiff]) (MV (EM t.g6) rfl)]
  exact ⟨by simp -implicitDefEqProofs only [AA,↓reduceIte]; rw [bad (.inl h2),badR (.inl h2)],t.hx.set (by omega) _⟩
 simp -implicitDefEqProofs only [BK,BU,CO,EO,AO,AQ,AL,BD,AX,AC,AA,A7,CB,BO,CE,BX,AB,List.map_cons,List.map_nil,List.append_nil,↓reduceIte,Nat.reduceEqDiff,Option.getD_some,Bool.not_true,Bool.not_false,enP,ldM t.gm,ldV t.gb]
 refine (UN G m b hm hb _).use ?_
 simp -implicitDefEqProofs only [BI,A8,AY,BC,BK,BU,CO,EO,AO,AQ,AL,BD,AX,AC,AA,A7,AU,BL,CP,DV,H9,AB,FB,↓reduceIte,Nat.reduceEqDiff,Option.getD_some,Bool.not_false]
 cases h3:FN m b
 ·simp -implicitDefEqProofs only [FP,BB,AZ,BM,A8,CS,DX,AY,BC,AO,AQ,AL,BD,AX,AC,EZ,AA,A7,AU,BH,BA,JI,EI,AB,DR,↓reduceIte,Nat.reduceEqDiff,Option.getD_some,Bool.not_false,enP,Option.getD_none,VZ,stZ t.g6 rfl]
  rw [O6 (ba:=b6) (by simp -implicitDefEqProofs only [AA,↓reduceIte,Nat.reduceEqDiff]) (MV (EM t.g6) rfl)]
  exact ⟨by simp -implicitDefEqProofs only [AA,↓reduceIte]; rw [bad (.inr h3),badR (.inr h3)],t.hx.set (by omega) _⟩
 have hz:=AJJ h2 h3
 have w1:=JW.1 (JG.1 h2).2.2.2.1
 have w2:=JW.1 (JG.1 h3).2.2.2.1
 have w3:=JW.1 (JG.1 h2).2.2.2.2
 have w4:=JW.1 (JG.1 h3).2.2.2.2
 have hst:=stV (v:=O1 a b) t.g6 rfl
 have hst':GG Tryz.prog H 28 (.ptr b6 0 0) (.agg [.sl (nm (KL a.pts b.pts)) 1 ((KL a.pts b.pts).map HY),.sl (nm (KL a.crs b.crs)) 1 ((KL a.crs b.crs).map HY),.int .i64 (min (a.sam+b.sam) 1099511627776),.int .i64 (min (a.ill+b.ill) 1099511627776)])=some (H.set b6 (ABlk.live 4 [EF (O1 a b)])):=hst
 simp -implicitDefEqProofs only [BB,BN,A8,DY,Bool.not_true]
 refine ER (by kernel_rfl) ?_
 simp -implicitDefEqProofs only [F7,D9,DT,EC,FC,D5,GM,F6,AO,AA,A7,CB,BO,BJ,AB,List.map_cons,List.map_nil,List.append_nil,↓reduceIte,Nat.reduceEqDiff,Nat.reduceAdd,Nat.add_zero,Nat.zero_add,Option.getD_some,enP,OY,NS,lv0 t.ga,lv0 t.gb]
 refine ⟨_,AG4 G _ _ _ _ _ (AL1 h2 h3),?_⟩
 try simp -implicitDefEqProofs only [F7,D9,DT,EC,FC,D5,GM,F6,AO,AA,A7,CB,BO,BJ,AB,List.map_cons,List.map_nil,List.append_nil,↓reduceIte,Nat.reduceEqDiff,Nat.reduceAdd,Nat.zero_add,Option.getD_some,enP,NS,YL,lv1 t.ga,lv1 t.gb]
 refine ⟨_,AG4 G _ _ _ _ _ (AL2 h2 h3),?_⟩
 try simp -implicitDefEqProofs only [F7,FP,FZ,D9,DT,MX,E8,EC,IQ,AE7,FC,MQ,IE,D5,GV,BM,A8,AO,AA,A7,AU,BH,JI,BO,EI,BQ,BJ,AGT,AB,DR,CZ,ABC,↓reduceIte,Nat.reduceEqDiff,Nat.reduceAdd,Nat.zero_add,Option.getD_some,enP,YL,AB3,Option.getD_none,lv2 t.ga,lv2 t.gb,lv3 t.ga,lv3 t.gb,wrap_i64 (n:=a.sam+b.sam) (by omega) (by omega),wrap_i64 (n:=a.ill+b.ill) (by omega) (by omega),AZQ,hst']
 rw [O6 (ba:=b6) (by simp -implicitDefEqProofs only [AA,↓reduceIte,Nat.reduceEqDiff]) (ldV (EM t.g6))]
 exact ⟨by simp -implicitDefEqProofs only [AA,↓reduceIte]; unfold AFI; rw [hz]; rfl,t.hx.set (by omega) _⟩
end Go.Proofs.YtocilianjfhifaaGreatDoor.Cov
/- merge.All, merge.Merge, the reference's All; no condition but the variables that are laid, the bounds on lengths, and cover.tuple's contract. -/
set_option linter.unusedSimpArgs false
set_option maxRecDepth 8000
namespace Go.Proofs.YtocilianjfhifaaGreatDoor.Cov
open Go Go.Proofs Go.Proofs.YtocilianjfhifaaGreatDoor.Sm Go.Proofs.YtocilianjfhifaaGreatDoor.Bins Go.RowKit

def AFH (m:Mo) (l:List Cvr):List AV:=if PN m l=0 then EF (ASN m l) else GI
theorem AL5 (m:Mo) (l:List Cvr) (e:Int):CvR (.tup [.agg (AFH m l),.int .i64 e]) (.tup [.agg (EF (N7 m l)),.int .i64 e]):=by
 unfold AFH N7
 split
 ·exact CvR.refl _
 ·exact CvR.tup (CvRL.cons APW (CvRL.refl _))
theorem AHL (m:Mo) (l:List Cvr) (e:Int) (n:Nat) (H:Hp):JF n H 3 (.tup [.agg (AFH m l),.int .i64 e]) = .tup [.agg (AFH m l),.int .i64 e]:=by
 unfold AFH; split <;> rfl
theorem WY {m:Mo} {l:List Cvr} (h:PN m l≠0):AFH m l=GI:=by unfold AFH; rw [if_neg h]
/-- a model, a result, a coverage and a track in blocks -/
structure Al (h H:Hp) (m:Mo) (c:Cvr) (b4 b6:Nat):Prop where
 gm:H[h.length]? = some (ABlk.live 2 [DU m])
 g4:H[b4]? = some (ABlk.live 4 [GI])
 g6:H[b6]? = some (ABlk.live 4 [EF c])
 o4:h.length < b4
 o6:b4 < b6
 hx:ext h H
theorem Al.app {h H:Hp} {m:Mo} {c:Cvr} {b4 b6:Nat} (E:Al h H m c b4 b6) (x:Hp):Al h (H ++ x) m c b4 b6:=⟨IW E.gm,IW E.g4,IW E.g6,E.o4,E.o6,E.hx.app _⟩
theorem Al.up {h H H':Hp} {m:Mo} {c:Cvr} {b4 b6:Nat} (E:Al h H m c b4 b6) (hx:ext H H'):Al h H' m c b4 b6:=by
 obtain ⟨x,rfl⟩:=hx; exact E.app x
theorem Al.put6 {h H:Hp} {m:Mo} {c:Cvr} {b4 b6:Nat} (E:Al h H m c b4 b6) (v:Cvr):Al h (H.set b6 (ABlk.live 4 [EF v])) m v b4 b6:=by
 have o4:=E.o4; have o6:=E.o6
 exact ⟨EX E.gm (by omega),EX E.g4 (by omega),EM E.g6,o4,o6,E.hx.set (by omega) _⟩
/-- what is laid of an Empty's results -/
theorem AYY {h H0:Hp} {m:Mo} {b4:Nat} (c:Cvr) (t:Tk) (gm:H0[h.length]? = some (ABlk.live 2 [DU m])) (g4:H0[b4]? = some (ABlk.live 4 [GI])) (o4:h.length < b4) (hx:ext h H0) :
  GG Tryz.prog (H0 ++ [ABlk.live 4 [GI]] ++ [ABlk.live 1 [JP]]) 28 (.ptr H0.length 0 0) (.agg (EF c))=some ((H0 ++ [ABlk.live 4 [GI]] ++ [ABlk.live 1 [JP]]).set H0.length (ABlk.live 4 [EF c])) ∧
  GG Tryz.prog ((H0 ++ [ABlk.live 4 [GI]] ++ [ABlk.live 1 [JP]]).set H0.length (ABlk.live 4 [EF c])) 47 (.ptr (H0 ++ [ABlk.live 4 [GI]]).length 0 0) (.agg (OL t))=some (((H0 ++ [ABlk.live 4 [GI]] ++ [ABlk.live 1 [JP]]).set H0.length (ABlk.live 4 [EF c])).set (H0 ++ [ABlk.live 4 [GI]]).length (ABlk.live 1 [OL t])) ∧
  Al h (((H0 ++ [ABlk.live 4 [GI]] ++ [ABlk.live 1 [JP]]).set H0.length (ABlk.live 4 [EF c])).set (H0 ++ [ABlk.live 4 [GI]]).length (ABlk.live 1 [OL t])) m c b4 H0.length:=by
 obtain ⟨s1,s2,g6,_,hx5⟩:=AUD H0 c t
 exact ⟨s1,s2,IZ hx5 gm,IZ hx5 g4,g6,o4,CJ g4,hx.trans hx5⟩
set_option maxHeartbeats 2000000 in
theorem AJT (G:Nat→AV) (hG:GOk G) (hT:J5 G) (m:Mo) (l:List Cvr) (s:SM) (hm:MoOk m) (hl : ∀ v∈l,CvOk v) (hn:l.length≤1048576) (h:Hp):PCall (En G) 34 [.agg (DU m),.sl s 4 (l.map EF)] h (.tup [.agg (EF (N7 m l)),.int .i64 (PN m l)]):=by
 refine PCall.res ?_ (AL5 m l _)
 refine NU 3 (AHL m l _) ?_
 refine CG (H:=Hint.none) (enM G) Tryz.func34 rfl (by kernel_rfl) (by kernel_rfl) (Nat.le_of_ble_eq_true (by kernel_rfl)) ?_
 show awp _ _ _ _ _ (EU _ [.cell 4 28,.tmp 5] _)
 have gm:(h ++ [ABlk.live 2 [DU m]] ++ [ABlk.live 4 [GI]])[h.length]? = some (ABlk.live 2 [DU m]):=DL (CX _ _)
 have g4:(h ++ [ABlk.live 2 [DU m]] ++ [ABlk.live 4 [GI]])[(h ++ [ABlk.live 2 [DU m]]).length]? = some (ABlk.live 4 [GI]):=CX _ _
 have o4:h.length < (h ++ [ABlk.live 2 [DU m]]).length:=by simp
 have hx:ext h (h ++ [ABlk.live 2 [DU m]] ++ [ABlk.live 4 [GI]]):=((ext.rfl' h).app _).app _
 simp -implicitDefEqProofs only [BB,AZ,A8,AY,BC,AO,AQ,AL,BD,AX,AC,AA,A7,AU,BH,BA,FW,FK,BO,BR,BG,↓reduceIte,Nat.reduceEqDiff,Option.getD_some,Bool.not_false,enP,bxM,MF]
 generalize h ++ [ABlk.live 2 [DU m]] ++ [ABlk.live 4 [GI]]=H0 at gm g4 hx ⊢
 generalize (h ++ [ABlk.live 2 [DU m]]).length=b4 at g4 o4 ⊢
 obtain ⟨s1,s2,E⟩:=AYY (emV m) (emT m) gm g4 o4 hx
 have l4:=CJ g4
 simp -implicitDefEqProofs only [AY,AO,AQ,AL,BD,AX,AC,AA,A7,CB,CE,BX,AB,List.map_cons,List.map_nil,List.append_nil,↓reduceIte,Option.getD_some,Bool.not_false,ldM gm]
 refine (WS G hG m hm _).use ?_
 simp -implicitDefEqProofs only [List.getElem?_cons_zero,List.getElem?_cons_succ,BB,AZ,BI,A8,AY,BC,AO,AQ,AL,BD,AX,AC,EZ,AA,A7,AU,BH,BF,BA,FW,EI,BQ,ET,FX,BR,AB,DR,EQ,↓reduceIte,Nat.reduceEqDiff,Option.getD_some,Bool.not_false,enP,Option.getD_none,MF,ADQ,s1,s2,bne]
 generalize ((H0 ++ [ABlk.live 4 [GI]] ++ [ABlk.live 1 [JP]]).set H0.length (ABlk.live 4 [EF (emV m)])).set (H0 ++ [ABlk.live 4 [GI]]).length (ABlk.live 1 [OL (emT m)])=H1 at E ⊢
 generalize H0.length=b6 at E l4 ⊢
 clear s1 s2 gm g4 hx
 cases h1:(FU m == 0)
 ·have h1':FU m≠0:=by simpa using h1
  have hne:=ACP (l:=l) h1'
  simp -implicitDefEqProofs only [FP,BB,AZ,BM,A8,CS,DX,AY,BC,AO,AQ,AL,BD,AX,AC,EZ,AA,A7,BF,BA,JI,EI,AB,DR,↓reduceIte,Nat.reduceEqDiff,Option.getD_some,Bool.not_false,enP,Option.getD_none,VZ,stZ E.g4 rfl]
  rw [O6 (ba:=b4) (by simp -implicitDefEqProofs only [AA,↓reduceIte,Nat.reduceEqDiff]) (MV (EM E.g4) rfl)]
  exact ⟨by simp -implicitDefEqProofs only [AA,↓reduceIte,hne]; rw [WY (by rw [hne]; exact h1')],E.hx.set (by omega) _⟩
 have h1':FU m=0:=by simpa using h1
 have hem:emV m=J6 m:=by unfold emV; rw [if_pos h1']
 rw [hem] at E
 simp -implicitDefEqProofs only [BB,BP,AZ,BN,A8,DY,AY,BC,AO,AQ,AL,BD,AX,AC,AA,A7,AU,BH,BF,DN,AB,BG,BV,↓reduceIte,Nat.reduceEqDiff,Option.getD_some,Bool.not_true,Bool.not_false,enP,TU,List.length_map]
 refine F8 0 (fun F H=>F 1 = .sl s 4 (l.map EF)∧F 4 = .ptr b4 0 0∧F 6 = .ptr b6 0 0∧Al h H m (J6 m) b4 b6∧∀ v∈l,FN m v=true) (fun F H=>F 4 = .ptr b4 0 0∧F 5 = .int .i64 1∧H[b4]? = some (ABlk.live 4 [GI])∧Sm.ext h H∧PN m l=1) ?_ ?_ ?_
 ·refine C9 (fun n F H => ∃ i,n+i=l.length∧F 1 = .sl s 4 (l.map EF)∧F 2 = .ptr h.length 0 0∧F 4 = .ptr b4 0 0∧F 6 = .ptr b6 0 0∧F 21 = .sl s 4 (l.map EF)∧F 22 = .int .i64 l.length∧F 23 = .int .i64 (i:Nat)∧Al h H m (J6 m) b4 b6∧∀ v∈l.take i,FN m v=true) l.length ⟨0,by simp,by simp -implicitDefEqProofs only [AA,BG,BV,↓reduceIte,Nat.reduceEqDiff],by simp -implicitDefEqProofs only [AA,↓reduceIte,Nat.reduceEqDiff],by simp -implicitDefEqProofs only [AA,↓reduceIte,Nat.reduceEqDiff],by simp -implicitDefEqProofs only [AA,↓reduceIte,Nat.reduceEqDiff],by simp -implicitDefEqProofs only [AA,↓reduceIte,Nat.reduceEqDiff],by simp -implicitDefEqProofs only [AA,↓reduceIte,Nat.reduceEqDiff],by simp -implicitDefEqProofs only [AA,↓reduceIte]; rfl,E,by simp⟩ ?_
  clear E
  rintro n F H ⟨i,hi,f1,f2,f4,f6,f21,f22,f23,E,hf⟩
  simp -implicitDefEqProofs only [BB,AZ,BI,A8,AY,BC,AO,AQ,AL,BD,AX,AC,AA,A7,BQ,AB,CW,↓reduceIte,Option.getD_some,Bool.not_false,enP,f22,f23]
  refine CQ (fun hc => ?_) (fun hc => ?_)
  ·have hi':i < l.length:=by simpa using hc
   have E1:=E.app [ABlk.live 4 [EF l[i]]]
   have gT:=ldV (CX H (ABlk.live 4 [EF l[i]]))
   simp -implicitDefEqProofs only [BB,BP,AZ,BN,A8,AY,BC,AO,AQ,AL,BD,AX,AC,EZ,AA,A7,CB,FW,BO,EI,BZ,CE,BX,BR,AB,DR,List.map_cons,List.map_nil,List.append_nil,↓reduceIte,Nat.reduceEqDiff,Option.getD_some,Bool.not_false,enP,AFR,Option.getD_none,f2,f21,f23,DJ hi',FD ACR TS MC hi',MF,Q8,ldM E1.gm,gT]
   refine (VE G hG hT m l[i] hm (hl _ (List.getElem_mem hi')) _).use ?_
   simp -implicitDefEqProofs only [BI,A8,AY,BC,AO,AQ,AL,BD,AX,AC,AA,A7,H9,AB,FB,↓reduceIte,Option.getD_some,Bool.not_false]
   cases hv:FN m l[i]
   ·simp -implicitDefEqProofs only [FP,BB,AZ,BM,A8,CS,EG,LW,FM,DX,AY,BC,AO,AQ,AL,BD,AX,AC,EZ,AA,A7,AU,BH,BA,JI,EI,AB,DR,↓reduceIte,Nat.reduceEqDiff,Option.getD_some,Bool.not_false,enP,Option.getD_none,VZ,f4,stZ E1.g4 rfl]
    exact ⟨trivial,trivial,EM E1.g4,E1.hx.set (by have:=E1.o4; omega) _,UU h1' (List.getElem_mem hi') hv⟩
   ·simp -implicitDefEqProofs only [AZ,BN,A8,D8,ED,DY,AY,BC,AO,AQ,AL,BD,AX,AC,AA,A7,AU,BH,BF,BQ,AB,CZ,↓reduceIte,Nat.reduceEqDiff,Option.getD_some,Bool.not_true,Bool.not_false,enP,f23,wrap_succ (show i < 9223372036854775807 by omega)]
    refine ⟨n - 1,by omega,i+1,by omega,f1,f2,f4,f6,f21,f22,rfl,E1,fun v hv' => ?_⟩
    rw [List.take_succ_eq_append_getElem hi'] at hv'
    rcases List.mem_append.1 hv' with hv' | hv'
    ·exact hf v hv'
    ·simp at hv'; rw [hv']; exact hv
  ·have hi' : ¬ i < l.length:=by simpa using hc
   rw [List.take_of_length_le (by omega)] at hf
   simp -implicitDefEqProofs only [DC,DZ,JM,EP,AA,↓reduceIte,Nat.reduceEqDiff]
   exact ⟨f1,f4,f6,E,hf⟩
 ·rintro F H ⟨f1,f4,f6,E,hf⟩
  have hz:PN m l=0:=P9.2 ⟨h1',hf⟩
  have o6:=E.o6
  simp -implicitDefEqProofs only [BB,AZ,A8,EN,AY,AO,AQ,AL,BD,AX,AC,AA,A7,CB,BF,BO,CE,BX,AB,List.map_cons,List.map_nil,List.append_nil,↓reduceIte,Nat.reduceEqDiff,Option.getD_some,Bool.not_false,enP,f1,f4,f6,ldV E.g6]
  refine (AKK G m (J6 m) l s _ (NY h1') hf hn).use ?_
  simp -implicitDefEqProofs only [BM,A8,AY,BC,AO,AQ,AL,BD,AX,AC,EZ,AA,A7,AU,BH,BA,EI,DR,↓reduceIte,Nat.reduceEqDiff,Option.getD_some,Bool.not_false,enP,Option.getD_none,f4,stV E.g4 rfl]
  rw [O6 (ba:=b4) (by simp -implicitDefEqProofs only [AA,↓reduceIte,Nat.reduceEqDiff,f4]) (ldV (EM E.g4))]
  exact ⟨by simp -implicitDefEqProofs only [AA,↓reduceIte]; unfold AFH ASN; rw [hz]; rfl,E.hx.set (by omega) _⟩
 ·rintro F H ⟨f4,f5,g4,hx,he⟩
  simp -implicitDefEqProofs only [CS,EG]
  rw [O6 (ba:=b4) f4 (MV g4 rfl)]
  exact ⟨by rw [f5,he,WY (by rw [he]; decide)],hx⟩
set_option maxHeartbeats 2000000 in
theorem ANL (G:Nat→AV) (m:Mo) (l:List Cvr) (s:SM) (hm:MoOk m) (hl : ∀ v∈l,CvOk v) (hn:l.length≤1048576) (h:Hp):PCall (En G) 35 [.agg (DU m),.sl s 4 (l.map EF)] h (.tup [.agg (EF (N7 m l)),.int .i64 (PN m l)]):=by
 refine PCall.res ?_ (AL5 m l _)
 refine NU 3 (AHL m l _) ?_
 refine CG (H:=hint [35] []) (enM G) Tryz.func35 rfl (by kernel_rfl) (by kernel_rfl) (Nat.le_of_ble_eq_true (by kernel_rfl)) ?_
 show awp _ _ _ _ _ (EU _ [.cell 4 28,.tmp 5] _)
 have gm:(h ++ [ABlk.live 2 [DU m]] ++ [ABlk.live 4 [GI]])[h.length]? = some (ABlk.live 2 [DU m]):=DL (CX _ _)
 have g4:(h ++ [ABlk.live 2 [DU m]] ++ [ABlk.live 4 [GI]])[(h ++ [ABlk.live 2 [DU m]]).length]? = some (ABlk.live 4 [GI]):=CX _ _
 have o4:h.length < (h ++ [ABlk.live 2 [DU m]]).length:=by simp
 have hx:ext h (h ++ [ABlk.live 2 [DU m]] ++ [ABlk.live 4 [GI]]):=((ext.rfl' h).app _).app _
 simp -implicitDefEqProofs only [CY,List.contains_cons,List.contains_nil,Nat.reduceBEq,Bool.or_false,BB,AZ,A8,AY,BC,AL,BD,AX,AC,AA,A7,AU,BH,BA,FW,FK,BO,BR,BG,↓reduceIte,Nat.reduceEqDiff,Option.getD_some,Bool.not_false,enP,EK,bxM,MF]
 generalize h ++ [ABlk.live 2 [DU m]] ++ [ABlk.live 4 [GI]]=H0 at gm g4 hx ⊢
 generalize (h ++ [ABlk.live 2 [DU m]]).length=b4 at g4 o4 ⊢
 obtain ⟨s1,s2,E⟩:=AYY (emV m) (ARY m) gm g4 o4 hx
 have l4:=CJ g4
 simp -implicitDefEqProofs only [CY,List.contains_cons,List.contains_nil,Nat.reduceBEq,Bool.or_false,AY,AL,BD,AX,AC,AA,A7,CB,CE,BX,AB,List.map_cons,List.map_nil,List.append_nil,↓reduceIte,Option.getD_some,Bool.not_false,EK,ldM gm]
 refine (APP G m hm _).use ?_
 simp -implicitDefEqProofs only [List.getElem?_cons_zero,List.getElem?_cons_succ,CY,List.contains_cons,List.contains_nil,Nat.reduceBEq,Bool.or_false,BB,AZ,BI,A8,AY,BC,AL,BD,AX,AC,EZ,AA,A7,AU,BH,BF,BA,FW,EI,BQ,ET,FX,BR,AB,DR,EQ,↓reduceIte,Nat.reduceEqDiff,Option.getD_some,Bool.not_false,enP,EK,Option.getD_none,MF,ADQ,s1,s2,bne]
 generalize ((H0 ++ [ABlk.live 4 [GI]] ++ [ABlk.live 1 [JP]]).set H0.length (ABlk.live 4 [EF (emV m)])).set (H0 ++ [ABlk.live 4 [GI]]).length (ABlk.live 1 [OL (ARY m)])=H1 at E ⊢
 generalize H0.length=b6 at E l4 ⊢
 clear s1 s2 gm g4 hx
 cases h1:(FU m == 0)
 ·have h1':FU m≠0:=by simpa using h1
  have hne:=ACP (l:=l) h1'
  simp -implicitDefEqProofs only [FP,CY,List.contains_cons,List.contains_nil,Nat.reduceBEq,Bool.or_false,BB,AZ,BM,A8,CS,DX,AY,BC,AL,BD,AX,AC,EZ,AA,A7,BF,BA,JI,EI,AB,DR,↓reduceIte,Nat.reduceEqDiff,Option.getD_some,Bool.not_false,enP,EK,Option.getD_none,VZ,stZ E.g4 rfl]
  rw [O6 (ba:=b4) (by simp -implicitDefEqProofs only [AA,↓reduceIte,Nat.reduceEqDiff]) (MV (EM E.g4) rfl)]
  exact ⟨by simp -implicitDefEqProofs only [AA,↓reduceIte,hne]; rw [WY (by rw [hne]; exact h1')],E.hx.set (by omega) _⟩
 have h1':FU m=0:=by simpa using h1
 have hem:emV m=J6 m:=by unfold emV; rw [if_pos h1']
 rw [hem] at E
 simp -implicitDefEqProofs only [CY,List.contains_cons,List.contains_nil,Nat.reduceBEq,Bool.or_false,BB,BP,AZ,BN,A8,DY,AY,BC,AL,BD,AX,AC,AU,BH,BA,Option.getD_some,Bool.not_true,Bool.not_false,EK]
 refine F8 0 (fun F H=>F 4 = .ptr b4 0 0∧F 6 = .ptr b6 0 0∧Al h H m (ASN m l) b4 b6∧∀ v∈l,FN m v=true) (fun F H=>F 4 = .ptr b4 0 0∧F 5 = .int .i64 1∧H[b4]? = some (ABlk.live 4 [GI])∧Sm.ext h H∧PN m l=1) ?_ ?_ ?_
 ·refine C9 (fun n F H => ∃ i,n+i=l.length∧F 1 = .sl s 4 (l.map EF)∧F 2 = .ptr h.length 0 0∧F 4 = .ptr b4 0 0∧F 6 = .ptr b6 0 0∧F 9 = .int .i64 (i:Nat)∧Al h H m ((l.take i).foldl O1 (J6 m)) b4 b6∧∀ v∈l.take i,FN m v=true) l.length ⟨0,by simp,by simp -implicitDefEqProofs only [AA,BG,BV,↓reduceIte,Nat.reduceEqDiff],by simp -implicitDefEqProofs only [AA,↓reduceIte,Nat.reduceEqDiff],by simp -implicitDefEqProofs only [AA,↓reduceIte,Nat.reduceEqDiff],by simp -implicitDefEqProofs only [AA,↓reduceIte,Nat.reduceEqDiff],by simp -implicitDefEqProofs only [AA,↓reduceIte]; rfl,E,by simp⟩ ?_
  clear E
  rintro n F H ⟨i,hi,f1,f2,f4,f6,f9,E,hf⟩
  simp -implicitDefEqProofs only [CY,List.contains_cons,List.contains_nil,Nat.reduceBEq,Bool.or_false,BB,AZ,BI,A8,AY,BC,AL,BD,AX,AC,AA,A7,BF,BQ,DN,AB,CW,↓reduceIte,Nat.reduceEqDiff,Option.getD_some,Bool.not_false,enP,TU,EK,f1,f9,List.length_map]
  refine CQ (fun hc => ?_) (fun hc => ?_)
  ·have hi':i < l.length:=by simpa using hc
   have hs:=AEG l (J6 m) i hi'
   have hc1:=VD (l.take i) (J6 m) (NY h1') hf
   generalize (l.take i).foldl O1 (J6 m)=c at hs hc1 E
   have o4:=E.o4; have o6:=E.o6; have l6:=CJ E.g6
   have E2:=E.app [ABlk.live 4 [EF (AOJ m c l[i])]]
   simp -implicitDefEqProofs only [BB,BP,BN,A8]
   refine ER (by kernel_rfl) ?_
   simp -implicitDefEqProofs only [F7,CY,List.contains_cons,List.contains_nil,Nat.reduceBEq,Bool.or_false,D9,DT,EC,FH,FC,D7,MG,GM,APB,AA,A7,CB,BO,BZ,ET,AB,List.map_cons,List.map_nil,List.append_nil,↓reduceIte,Nat.reduceEqDiff,Nat.reduceAdd,Option.getD_some,enP,AFR,f1,f2,f6,f9,ldM E.gm,ldV E.g6,DJ hi',FD ACR TS MC hi']
   refine ⟨_,fun x=>APN G m c l[i] hm (VG hc1) (hl _ (List.getElem_mem hi')) _,?_⟩
   try simp -implicitDefEqProofs only [F7,List.getElem?_cons_zero,List.getElem?_cons_succ,CY,List.contains_cons,List.contains_nil,Nat.reduceBEq,Bool.or_false,D9,DT,MX,E8,EC,IQ,AS2,MQ,MG,BB,AZ,BI,A8,AY,BC,AL,BD,AX,AC,AA,A7,AU,BH,BF,FW,EI,BQ,ET,FX,BR,AB,DR,EQ,↓reduceIte,Nat.reduceEqDiff,Nat.reduceAdd,Nat.zero_add,Option.getD_some,Bool.not_false,enP,EK,Option.getD_none,MF,Q8,bne]
   cases hv:FN m l[i]
   ·have h2:PN m [c,l[i]]=1:=UU h1' (by simp) hv
    have z1:((1:Int) == 0)=false:=rfl
    simp -implicitDefEqProofs only [FP,CY,List.contains_cons,List.contains_nil,Nat.reduceBEq,Bool.or_false,BB,AZ,BM,A8,CS,EG,LW,FM,DX,AY,BC,AL,BD,AX,AC,EZ,AA,A7,BF,BA,JI,EI,AB,DR,↓reduceIte,Nat.reduceEqDiff,Option.getD_some,Bool.not_false,enP,EK,Option.getD_none,h2,z1,VZ,f4,stZ E2.g4 rfl]
    exact ⟨trivial,trivial,EM E2.g4,E2.hx.set (by omega) _,UU h1' (List.getElem_mem hi') hv⟩
   ·have h2:PN m [c,l[i]]=0:=AJJ hc1 hv
    have h3:AOJ m c l[i]=O1 c l[i]:=by unfold AOJ; rw [if_pos h2]
    rw [h3] at E2
    have E3:=E2.put6 (O1 c l[i])
    have gT:=ldV (CX H (ABlk.live 4 [EF (O1 c l[i])]))
    have z0:((0:Int) == 0)=true:=rfl
    simp -implicitDefEqProofs only [CY,List.contains_cons,List.contains_nil,Nat.reduceBEq,Bool.or_false,AZ,BN,A8,D8,ED,DY,AY,BC,AL,BD,AX,AC,EZ,AA,A7,AU,BH,BF,BA,BO,EI,BQ,AB,DR,CZ,↓reduceIte,Nat.reduceEqDiff,Option.getD_some,Bool.not_true,Bool.not_false,enP,EK,Option.getD_none,h2,h3,z0,f6,gT,stV E2.g6 rfl,f9,wrap_succ (show i < 9223372036854775807 by omega)]
    refine ⟨n - 1,by omega,i+1,by omega,f1,f2,f4,trivial,rfl,?_,fun v hv' => ?_⟩
    ·rw [hs]; exact E3
    rw [List.take_succ_eq_append_getElem hi'] at hv'
    rcases List.mem_append.1 hv' with hv' | hv'
    ·exact hf v hv'
    ·simp at hv'; rw [hv']; exact hv
  ·have hi' : ¬ i < l.length:=by simpa using hc
   rw [List.take_of_length_le (by omega)] at hf E
   simp -implicitDefEqProofs only [DC,DZ,JM,EP,AA,↓reduceIte,Nat.reduceEqDiff]
   exact ⟨f4,f6,E,hf⟩
 ·rintro F H ⟨f4,f6,E,hf⟩
  have hz:PN m l=0:=P9.2 ⟨h1',hf⟩
  have o4:=E.o4
  simp -implicitDefEqProofs only [CY,List.contains_cons,List.contains_nil,Nat.reduceBEq,Bool.or_false,BB,AZ,BM,A8,EN,AY,BC,AL,BD,AX,AC,EZ,AA,A7,AU,BH,BA,BO,EI,AB,DR,↓reduceIte,Nat.reduceEqDiff,Option.getD_some,Bool.not_false,enP,EK,Option.getD_none,f4,f6,ldV E.g6,stV E.g4 rfl]
  rw [O6 (ba:=b4) (by simp -implicitDefEqProofs only [AA,↓reduceIte,Nat.reduceEqDiff,f4]) (ldV (EM E.g4))]
  exact ⟨by simp -implicitDefEqProofs only [AA,↓reduceIte]; unfold AFH; rw [hz]; rfl,E.hx.set (by omega) _⟩
 ·rintro F H ⟨f4,f5,g4,hx,he⟩
  simp -implicitDefEqProofs only [CS,EG]
  rw [O6 (ba:=b4) f4 (MV g4 rfl)]
  exact ⟨by rw [f5,he,WY (by rw [he]; decide)],hx⟩
end Go.Proofs.YtocilianjfhifaaGreatDoor.Cov
