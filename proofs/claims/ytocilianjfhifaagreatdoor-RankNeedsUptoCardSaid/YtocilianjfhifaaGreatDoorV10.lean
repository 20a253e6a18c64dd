/- Part 10 of the proof (A1, Q1, Q2, Q3, A2, Q4, Q5, Q6, Q7, Q8); no condition. -/
import Derived.Test.YtocilianjfhifaaGreatDoorV9
set_option linter.unusedVariables false
/- Adding coverages that fit a model: what it is, and what it keeps; no condition. -/
namespace Go.Proofs.YtocilianjfhifaaGreatDoor.Cov
open Go Go.Proofs Go.Proofs.YtocilianjfhifaaGreatDoor.Sm Go.Proofs.YtocilianjfhifaaGreatDoor.Bins Go.RowKit

/-- the sum of two counts -/
def TA (a b:Int):Int:=min (a+b) 1099511627776
theorem JA {n:Int}:GR n=true↔0≤n∧n≤1099511627776:=by unfold GR; simp
theorem S9 {a b:Int} (ha:GR a=true) (hb:GR b=true):GR (TA a b)=true:=by
 rw [JA] at *; unfold TA; omega
theorem ARG {a b:Int} (ha:GR a=true) (hb:GR b=true):decide (TA a b > 0)=(decide (a > 0) || decide (b > 0)):=by
 rw [JA] at *
 unfold TA
 rw [Bool.eq_iff_iff]
 simp only [decide_eq_true_eq,Bool.or_eq_true]
 omega
theorem AB3 {n:Int} {p:Bool} (h:countB n p=true):GR n=true:=by unfold countB at h; simp only [Bool.and_eq_true] at h; exact h.1
theorem AJW {a b:Int} {p:Bool} (ha:countB a p=true) (hb:countB b p=true):countB (TA a b) p=true:=by
 unfold countB at *
 simp only [Bool.and_eq_true] at *
 refine ⟨S9 ha.1 hb.1,?_⟩
 cases p
 ·have h1:=ha.2; have h2:=hb.2
  simp only [Bool.false_or,beq_iff_eq] at h1 h2
  subst h1; subst h2; rfl
 ·rfl
/-- the sums of two lists -/
def OG (x y:List Int):List Int:=List.zipWith TA x y
def V8 (x y:Is):Is:=⟨nm (OG x.l y.l),OG x.l y.l⟩
def JW (a b:List Is):List Is:=List.zipWith V8 a b
def ND (a b:Cvr):Cvr:=⟨nm (JW a.pts b.pts),JW a.pts b.pts,nm (JW a.crs b.crs),JW a.crs b.crs,TA a.sam b.sam,TA a.ill b.ill⟩
/-- numbers that are counts -/
def WL (x:List Int):Prop := ∀ n∈x,GR n=true
theorem R8 : ∀ {x:List Int} {p:Nat→Bool} {k:Nat},NM p k x=true→WL x
 | [],_,_,_=>fun _ h=>by cases h
 | n :: x,p,k,h=>by
   simp only [NM,Bool.and_eq_true] at h
   intro m hm
   rcases List.mem_cons.1 hm with rfl | hm
   ·exact AB3 h.1
   ·exact R8 h.2 m hm
theorem ZN : ∀ {x y:List Int} {p:Nat→Bool} {k:Nat},NM p k x=true→NM p k y=true→NM p k (OG x y)=true
 | [],_,_,_,_,_=>by simp [OG,NM]
 | _ :: _,[],_,_,_,_=>by simp [OG,NM]
 | a :: x,b :: y,p,k,ha,hb=>by
   simp only [NM,Bool.and_eq_true] at ha hb
   have ih:=ZN ha.2 hb.2
   simp only [OG,List.zipWith_cons_cons,NM,Bool.and_eq_true]
   exact ⟨AJW ha.1 hb.1,ih⟩
theorem ASE {p:Pt} {x y:Is} (hx:okP p x=true) (hy:okP p y=true):okP p (V8 x y)=true:=by
 unfold okP at *
 simp only [Bool.and_eq_true,beq_iff_eq] at *
 refine ⟨?_,ZN hx.2 hy.2⟩
 show (OG x.l y.l).length=_
 unfold OG; rw [List.length_zipWith]; omega
theorem ASG {m:Mo} {c:Cr} {x y:Is} (hx:okC m c x=true) (hy:okC m c y=true):okC m c (V8 x y)=true:=by
 unfold okC at *
 simp only [Bool.and_eq_true,beq_iff_eq] at *
 refine ⟨?_,ZN hx.2 hy.2⟩
 show (OG x.l y.l).length=_
 unfold OG; rw [List.length_zipWith]; omega
theorem AAQ {α:Type} {ok:α→Is→Bool} (hok : ∀ a x y,ok a x=true→ok a y=true→ok a (V8 x y)=true) : ∀ {ws:List α} {xs ys:List Is},J2 ok ws xs=true→J2 ok ws ys=true→J2 ok ws (JW xs ys)=true
 | [],[],[],_,_=>rfl
 | a :: ws,x :: xs,y :: ys,hx,hy=>by
   simp only [J2,Bool.and_eq_true] at hx hy
   simp only [JW,List.zipWith_cons_cons,J2,Bool.and_eq_true]
   exact ⟨hok _ _ _ hx.1 hy.1,AAQ hok hx.2 hy.2⟩
 | [],_ :: _,_,h,_=>by cases h
 | [],[],_ :: _,_,h=>by cases h
 | _ :: _,[],_,h,_=>by cases h
 | _ :: _,_ :: _,[],_,h=>by cases h
/-- what it is to fit -/
theorem IP {m:Mo} {v:Cvr}:E9 m v=true↔FH m=0∧J2 okP m.pts v.pts=true∧J2 (okC m) m.crs v.crs=true∧GR v.sam=true∧GR v.ill=true:=by
 unfold E9
 simp only [Bool.and_eq_true,beq_iff_eq]
 exact ⟨fun ⟨⟨⟨⟨a,b⟩,c⟩,d⟩,e⟩=>⟨a,b,c,d,e⟩,fun ⟨a,b,c,d,e⟩=>⟨⟨⟨⟨a,b⟩,c⟩,d⟩,e⟩⟩
theorem AC5 {m:Mo} {a b:Cvr} (ha:E9 m a=true) (hb:E9 m b=true):E9 m (ND a b)=true:=by
 rw [IP] at *
 obtain ⟨h1,h2,h3,h4,h5⟩:=ha
 obtain ⟨_,k2,k3,k4,k5⟩:=hb
 exact ⟨h1,AAQ (fun _ _ _=>ASE) h2 k2,AAQ (fun _ _ _=>ASG) h3 k3,S9 h4 k4,S9 h5 k5⟩
/-- the coverage without samples -/
def zeros (n:Nat):List Int:=List.replicate n 0
def zIs (n:Nat):Is:=⟨.full,zeros n⟩
def zPs (m:Mo):List Is:=m.pts.map fun p=>zIs p.bins.length
def zCs (m:Mo):List Is:=m.crs.map fun c=>zIs (FM (szs m c.pts))
def JG (m:Mo):Cvr:=⟨nm (zPs m),zPs m,nm (zCs m),zCs m,0,0⟩
theorem WG : ∀ (n:Nat) {p:Nat→Bool} {k:Nat},NM p k (zeros n)=true
 | 0,_,_=>rfl
 | n+1,p,k=>by
   have ih:=WG n (p:=p) (k:=k+1)
   unfold zeros at *
   simp only [List.replicate_succ,NM,ih,Bool.and_true]
   unfold countB; cases p k <;> rfl
theorem AAO {α:Type} {ok:α→Is→Bool} (f:α→Is) (hf : ∀ a,ok a (f a)=true) : ∀ ws:List α,J2 ok ws (ws.map f)=true
 | []=>rfl
 | a :: ws=>by simp only [List.map_cons,J2,hf,AAO f hf ws,Bool.and_true]
theorem MI {m:Mo} (h:FH m=0):E9 m (JG m)=true:=by
 rw [IP]
 refine ⟨h,AAO _ (fun p => ?_) _,AAO _ (fun c => ?_) _,rfl,rfl⟩
 ·unfold okP; simp [zIs,WG]; simp [zeros]
 ·unfold okC; simp [zIs,WG]; simp [zeros]
/-- what a coverage says, however it lies -/
structure Dat where
 pts:List (List Int)
 crs:List (List Int)
 sam:Int
 ill:Int
def VX (v:Cvr):Dat:=⟨v.pts.map (·.l),v.crs.map (·.l),v.sam,v.ill⟩
def V7 (a b:List (List Int)):List (List Int):=List.zipWith OG a b
def ARH (a b:Dat):Dat:=⟨V7 a.pts b.pts,V7 a.crs b.crs,TA a.sam b.sam,TA a.ill b.ill⟩
theorem AMB : ∀ a b:List Is,(JW a b).map (·.l)=V7 (a.map (·.l)) (b.map (·.l))
 | [],_=>by simp [JW,V7]
 | _ :: _,[]=>by simp [JW,V7]
 | x :: a,y :: b=>by
   have:=AMB a b
   unfold JW V7 at *
   simp only [List.zipWith_cons_cons,List.map_cons,this]; rfl
theorem AA0 (a b:Cvr):VX (ND a b)=ARH (VX a) (VX b):=by
 unfold VX ARH ND; simp only [AMB]
theorem ZU {p:Pt} {x:Is} (h:okP p x=true):WL x.l:=by
 unfold okP at h; simp only [Bool.and_eq_true] at h; exact R8 h.2
theorem ZV {m:Mo} {c:Cr} {x:Is} (h:okC m c x=true):WL x.l:=by
 unfold okC at h; simp only [Bool.and_eq_true] at h; exact R8 h.2
theorem AAP {α:Type} {ok:α→Is→Bool} {Q:Is→Prop} (hq : ∀ a x,ok a x=true→Q x) : ∀ {ws:List α} {xs:List Is},J2 ok ws xs=true→∀ x∈xs,Q x
 | _,[],_=>fun _ h=>by cases h
 | a :: ws,x :: xs,h=>by
   simp only [J2,Bool.and_eq_true] at h
   intro y hy
   rcases List.mem_cons.1 hy with rfl | hy
   ·exact hq _ _ h.1
   ·exact AAP hq h.2 y hy
 | [],_ :: _,h=>by cases h
theorem AK3 {p:Pt} {x:Is} (h:okP p x=true):x.l.length=p.bins.length:=by
 unfold okP at h; simp only [Bool.and_eq_true,beq_iff_eq] at h; exact h.1
theorem AK4 {m:Mo} {c:Cr} {x:Is} (h:okC m c x=true):x.l.length=FM (szs m c.pts):=by
 unfold okC at h; simp only [Bool.and_eq_true,beq_iff_eq] at h; exact h.1
end Go.Proofs.YtocilianjfhifaaGreatDoor.Cov
/- Sums and equality of lists of counts, on both sides; no condition but the bounds on lengths. -/
set_option linter.unusedSimpArgs false
set_option maxRecDepth 8000
namespace Go.Proofs.YtocilianjfhifaaGreatDoor.Cov
open Go Go.Proofs Go.Proofs.YtocilianjfhifaaGreatDoor.Sm Go.Proofs.YtocilianjfhifaaGreatDoor.Bins Go.RowKit

theorem ABF (G:Nat→AV) (a b:Int) (h:Hp) (ha:GR a=true) (hb:GR b=true):PCall (En G) 147 [.int .i64 a,.int .i64 b] h (.int .i64 (TA a b)):=by
 have h1:=JA.1 ha
 have h2:=JA.1 hb
 refine BX (H:=Hint.none) (enM G) Tryz.func147 rfl (by kernel_rfl) (by kernel_rfl) (Nat.le_of_ble_eq_true (by kernel_rfl)) ?_
 show awp _ _ _ _ _ (EJ _ [.tmp 4] _)
 simp -implicitDefEqProofs only [A8,AX,BJ,AZ,CK,AU,A9,AL,AO,AJ,BA,AR,AC,AA,AY,AQ,BD,BB,A7,BN,AFG,AB,CR,ZX,BC,BP,↓reduceIte,Nat.reduceEqDiff,Option.getD_some,Bool.not_false,enP,wrap_i64 (n:=a+b) (by omega) (by omega)]
 exact ⟨rfl,trivial⟩
/-- two lists of lists of counts of the same lengths -/
structure Sh2 (a b:List Is):Prop where
 len:a.length=b.length
 row : ∀ i (ha:i < a.length) (hb:i < b.length),a[i].l.length=b[i].l.length∧a[i].l≠[]∧WL a[i].l∧WL b[i].l∧a[i].l.length≤1048576
 num:a.length≤1048576
theorem ANO (g:List Int) (k:Nat) (hk:k < g.length):((g.take k ++ zeros (g.length - k)).map encI).set k (encI g[k])=(g.take (k+1) ++ zeros (g.length - (k+1))).map encI:=by
 have hz:zeros (g.length - k)=0 :: zeros (g.length - (k+1)):=by
  unfold zeros
  rw [show g.length - k=(g.length - (k+1))+1 by omega,List.replicate_succ]
 rw [hz,List.take_succ_eq_append_getElem hk]
 simp only [List.map_append,List.map_cons,List.map_nil,List.append_assoc,List.singleton_append]
 rw [List.set_append_right _ _ (by simp; omega)]
 simp [Nat.min_eq_left (Nat.le_of_lt hk)]
theorem AP7 (g:List Int):(g.take g.length ++ zeros (g.length - g.length)).map encI=g.map encI:=by
 rw [List.take_length,Nat.sub_self]; simp [zeros]
theorem AP6 (g:List Int) (k:Nat) (hk:k≤g.length):(g.take k ++ zeros (g.length - k)).length=g.length:=by
 simp [zeros]; omega
theorem mkI (h:Hp) (n:Nat) (hn:n≤1048576):IY Tryz.prog true h 57 (.int .i64 (n:Int)) (.int .i64 (n:Int))=some (.own h.length 0 n,h ++ [.live 1 ((zeros n).map encI)]):=by
 rw [AST h n hn,Y0]
 simp [zeros]
theorem ARX {h:Hp} {o j:Nat} {rows:List (List AV)} {x:Int} (ho:h[o]? = some (.live 1 rows)) (hj : ∃ v,rows[j]? = some [v]):FQ Tryz.prog h 3 (.ptr o j 0) (.int .i64 x)=some (h.set o (.live 1 (rows.set j (encI x)))):=by
 obtain ⟨v,hv⟩:=hj
 rw [KV (RG _ _) sz3 ho hv (by simp)]; rfl
theorem PN (h:Hp) (x y:ABlk):(h ++ [x]).set h.length y=h ++ [y]:=by simp
theorem AO6 {g:List Int} {j:Nat} (hj:j < g.length) : ∃ v,(g.map encI)[j]? = some [v]:=⟨_,by rw [List.getElem?_map,List.getElem?_eq_getElem hj]; rfl⟩
theorem ADK (h:Hp) (m:SM) (xs:List (List AV)):FC Tryz.prog false h 26 1 [(0,.sl m 1 xs)]=some (.sl .full 1 [[.sl m 1 xs]],h):=by kernel_rfl
theorem ANH:Frz GG:=fun _ _ _ _=>⟨rfl,rfl⟩
theorem AUX (g:List Int):LG (g.map encI)=true:=by
 unfold LG
 rw [List.all_eq_true]
 intro r hr
 obtain ⟨x,_,rfl⟩:=List.mem_map.1 hr
 rfl
theorem APE {α:Type} {ys:List α} (h:ys≠[]):nm ys = .any:=by cases ys with
 | nil=>exact absurd rfl h
 | cons _ _=>rfl
theorem ADN (a b:List Is) (h:a.length=b.length):(JW a b).length=a.length:=by unfold JW; rw [List.length_zipWith]; omega
theorem AID (x y:List Int) (h:x.length=y.length):(OG x y).length=x.length:=by unfold OG; rw [List.length_zipWith]; omega
theorem ADO (a b:List Is) (i:Nat) (ha:i < a.length) (hb:i < b.length) (hi:i < (JW a b).length):(JW a b)[i]=V8 a[i] b[i]:=List.getElem_zipWith
theorem AIE (x y:List Int) (i:Nat) (ha:i < x.length) (hb:i < y.length) (hi:i < (OG x y).length):(OG x y)[i]=TA x[i] y[i]:=List.getElem_zipWith
set_option maxHeartbeats 1000000 in
theorem Z5 (G:Nat→AV) (a b:List Is) (s t:SM) (h:Hp) (hs:Sh2 a b):PCall (En G) 146 [.sl s 1 (a.map GG),.sl t 1 (b.map GG)] h (.sl (nm (JW a b)) 1 ((JW a b).map GG)):=by
 refine LA ANH ?_
 have hl:=hs.len
 have hn:=hs.num
 have hsl:=ADN a b hl
 refine BX (H:=hint [] [(43,[42])]) (enM G) Tryz.func146 rfl (by kernel_rfl) (by kernel_rfl) (Nat.le_of_ble_eq_true (by kernel_rfl)) ?_
 show awp _ _ _ _ _ (EJ _ [.tmp 4] _)
 simp -implicitDefEqProofs only [CL,List.contains_nil,Nat.reduceBEq,A8,BM,AX,AZ,AU,A9,AJ,BA,AR,AC,AA,AY,AQ,BD,EX,BB,A7,C8,AB,BC,↓reduceIte,Nat.reduceEqDiff,Option.getD_some,Bool.not_false,enP,WM,Bool.false_eq_true,EE,List.length_map]
 refine CS (fun n F H => ∃ i,n+i=a.length∧F 1 = .sl t 1 (b.map GG)∧F 10 = .sl s 1 (a.map GG)∧F 11 = .int .i64 a.length∧F 12 = .int .i64 (i:Nat)∧ext h H∧outG 1 GG h ((JW a b).take i) (F 5) H) a.length ⟨0,by simp,by simp -implicitDefEqProofs only [AA,BC,BP,↓reduceIte,Nat.reduceEqDiff],by simp -implicitDefEqProofs only [AA,↓reduceIte,Nat.reduceEqDiff],by simp -implicitDefEqProofs only [AA,↓reduceIte,Nat.reduceEqDiff],by simp -implicitDefEqProofs only [AA,↓reduceIte]; rfl,ext.rfl' h,by rw [List.take_zero]; exact outG.nil _ _ _ _⟩ ?_
 rintro n F H ⟨i,hi,f1,f10,f11,f12,he,ho⟩
 simp -implicitDefEqProofs only [CL,List.contains_nil,Nat.reduceBEq,A8,AX,BF,AZ,AU,A9,AJ,BA,AR,AC,AA,AY,BN,AB,CO,↓reduceIte,Option.getD_some,Bool.not_false,enP,Bool.false_eq_true,EE,f11,f12]
 refine CG (fun hc => ?_) (fun hc => ?_)
 ·have ha:i < a.length:=by simpa using hc
  have hb:i < b.length:=by omega
  obtain ⟨r1,r2,r3,r4,r5⟩:=hs.row i ha hb
  have hSi:i < (JW a b).length:=by omega
  have hget:=ADO a b i ha hb hSi
  have htk:=List.take_succ_eq_append_getElem hSi
  rw [hget] at htk
  have hgl:=AID _ _ r1
  have hgi:=AIE a[i].l b[i].l
  have hgne:OG a[i].l b[i].l≠[]:=fun e=>r2 (List.eq_nil_of_length_eq_zero (by rw [← hgl,e]; rfl))
  have hadd:V8 a[i] b[i]=⟨.any,OG a[i].l b[i].l⟩:=by unfold V8; rw [APE hgne]
  rw [hadd] at htk
  generalize OG a[i].l b[i].l=g at hgl hgi hgne htk
  simp -implicitDefEqProofs only [CL,List.contains_nil,Nat.reduceBEq,A8,BM,AX,BK,AZ,AU,A9,AJ,BA,AR,AC,AA,AY,AQ,BD,BB,A7,BL,I9,BU,C8,BO,AB,↓reduceIte,Nat.reduceEqDiff,Option.getD_some,Bool.not_false,enP,PK,GV,Bool.false_eq_true,EE,f10,f12,CW ha,CP KA ha,LH,List.length_map,mkI _ _ r5]
  refine FO 2 (fun F' H'=>F' 1 = .sl t 1 (b.map GG)∧F' 10 = .sl s 1 (a.map GG)∧F' 11 = .int .i64 a.length∧F' 12 = .int .i64 (i:Nat)∧F' 5=F 5∧F' 8 = .own H.length 0 g.length∧H'=H ++ [.live 1 (g.map encI)]) (fun _ _=>False) ?_ ?_ (fun _ _ hh=>hh.elim)
  ·refine CS (fun n F' H' => ∃ k,n+k=g.length∧F' 1 = .sl t 1 (b.map GG)∧F' 10 = .sl s 1 (a.map GG)∧F' 11 = .int .i64 a.length∧F' 12 = .int .i64 (i:Nat)∧F' 5=F 5∧F' 8 = .own H.length 0 g.length∧F' 7 = .sl a[i].m 1 (a[i].l.map encI)∧F' 6 = .int .i64 (i:Nat)∧F' 21 = .int .i64 g.length∧F' 22 = .int .i64 (k:Nat)∧H'=H ++ [.live 1 ((g.take k ++ zeros (g.length - k)).map encI)]) g.length ⟨0,by simp,by simp -implicitDefEqProofs only [AA,↓reduceIte,Nat.reduceEqDiff,f1],by simp -implicitDefEqProofs only [AA,↓reduceIte,Nat.reduceEqDiff,f10],by simp -implicitDefEqProofs only [AA,↓reduceIte,Nat.reduceEqDiff,f11],by simp -implicitDefEqProofs only [AA,↓reduceIte,Nat.reduceEqDiff,f12],by simp -implicitDefEqProofs only [AA,↓reduceIte,Nat.reduceEqDiff],by simp -implicitDefEqProofs only [AA,↓reduceIte,Nat.reduceEqDiff]; rw [hgl],by simp -implicitDefEqProofs only [AA,↓reduceIte,Nat.reduceEqDiff],by simp -implicitDefEqProofs only [AA,↓reduceIte,Nat.reduceEqDiff],by simp -implicitDefEqProofs only [AA,↓reduceIte,Nat.reduceEqDiff]; rw [hgl],by simp -implicitDefEqProofs only [AA,↓reduceIte]; rfl,by rw [List.take_zero,List.nil_append,Nat.sub_zero,hgl]⟩ ?_
   rintro n' F' H' ⟨k,hk,g1,g10,g11,g12,g5,g8,g7,g6,g21,g22,rfl⟩
   simp -implicitDefEqProofs only [CL,List.contains_nil,Nat.reduceBEq,A8,AX,BF,AZ,AU,A9,AJ,BA,AR,AC,AA,AY,BN,AB,CO,↓reduceIte,Option.getD_some,Bool.not_false,enP,Bool.false_eq_true,EE,g21,g22]
   refine CG (fun hc => ?_) (fun hc => ?_)
   ·have hk':k < g.length:=by simpa using hc
    have hka:k < a[i].l.length:=by omega
    have hkb:k < b[i].l.length:=by omega
    have hw:=ABF G _ _ (H ++ [.live 1 ((g.take k ++ zeros (g.length - k)).map encI)]) (r3 _ (List.getElem_mem hka)) (r4 _ (List.getElem_mem hkb))
    rw [← hgi k hka hkb hk'] at hw
    have hrow:=AO6 (g:=g.take k ++ zeros (g.length - k)) (j:=k) (by rw [AP6 g k (by omega)]; exact hk')
    simp -implicitDefEqProofs only [CL,List.contains_nil,Nat.reduceBEq,A8,BM,AX,BK,AZ,AU,A9,AJ,BA,AR,AC,AA,AY,BB,A7,↓reduceIte,Nat.reduceEqDiff,Option.getD_some,Bool.not_false,Bool.false_eq_true,EE,g22]
    refine EG (by kernel_rfl) ?_
    simp -implicitDefEqProofs only [FJ,CL,List.contains_nil,DT,CZ,DV,ET,EN,DN,FP,FD,AA,AY,BS,BL,BU,AB,List.map_cons,List.map_nil,List.append_nil,↓reduceIte,Nat.reduceEqDiff,Nat.reduceAdd,Option.getD_some,enP,PK,IL,g1,g6,g7,g8,CW hka,CP ag3 hka,encI0,CW hb,CP KA hb,LH,CW hkb,CP ag3 hkb]
    refine ⟨_,hw,?_⟩
    try simp -implicitDefEqProofs only [FJ,CL,List.contains_nil,Nat.reduceBEq,DT,CZ,LD,EO,DV,K8,AX,AZ,DU,DZ,AU,A9,AJ,BA,AR,AC,AA,AY,AQ,BD,BB,EC,BN,AB,DF,CR,↓reduceIte,Nat.reduceEqDiff,Nat.zero_add,Option.getD_some,Bool.not_false,enP,Option.getD_none,Bool.false_eq_true,EE,g22,Q7 (CQ H _) hk',Nat.zero_add,ARX (CQ H _) hrow,PN,ANO g k hk',CB (show k < 9223372036854775807 by omega)]
    exact ⟨n' - 1,by omega,k+1,by omega,g1,g10,g11,g12,g5,g8,g7,g6,g21,rfl,rfl⟩
   ·have hk' : ¬ k < g.length:=by simpa using hc
    obtain rfl:k=g.length:=by omega
    simp -implicitDefEqProofs only [CU,DR,II,EF,AA,↓reduceIte,Nat.reduceEqDiff]
    exact ⟨g1,g10,g11,g12,g5,g8,by rw [AP7]⟩
  ·rintro F' H' ⟨g1,g10,g11,g12,g5,g8,rfl⟩
   have hz:=QK (H:=H ++ [.live 1 (g.map encI)]) (i:=42) (off:=0) (len:=g.length) (CQ H _) (by simp) (by rw [List.drop_zero,List.take_of_length_le (by simp)]; exact AUX g)
   rw [List.drop_zero,List.take_of_length_le (by simp),PN] at hz
   obtain ⟨v',H2,hap,ho',_,he',_,_⟩:=(ho.app [.dead]).append AFN ABO AIK AH1 (by omega) (by rw [List.length_take]; omega) (he.app [.dead]) ⟨.any,g⟩
   simp -implicitDefEqProofs only [E8,FI,CL,List.contains_nil,Nat.reduceBEq,AX,AZ,EB,AU,AJ,BA,AR,AC,AA,AY,BB,EA,FT,BO,↓reduceIte,Nat.reduceEqDiff,Option.getD_some,Bool.not_false,enP,Bool.false_eq_true,EE,g5,g8,NQ,AJ,hz,ADK]
   refine FK (v:=v') (h:=H2) hap ?_
   simp -implicitDefEqProofs only [CL,List.contains_nil,Nat.reduceBEq,AX,AZ,DU,DZ,AU,A9,AJ,BA,AR,AC,AA,AY,AQ,BD,BB,A7,BN,AB,CR,↓reduceIte,Nat.reduceEqDiff,Option.getD_some,Bool.not_false,enP,Bool.false_eq_true,EE,g12,CB (show i < 9223372036854775807 by omega)]
   refine ⟨n - 1,by omega,i+1,by omega,g1,g10,g11,rfl,he',?_⟩
   rw [htk]; exact ho'
 ·have ha : ¬ i < a.length:=by simpa using hc
  rw [List.take_of_length_le (by omega)] at ho
  simp -implicitDefEqProofs only [CL,List.contains_nil,Nat.reduceBEq,A8,AX,BJ,CU,AZ,DR,EB,EF,CK,AU,A9,AJ,BA,AR,AC,AA,AY,BB,A7,↓reduceIte,Nat.reduceEqDiff,Option.getD_some,Bool.not_false,Bool.false_eq_true,EE]
  exact ⟨he,ho⟩
end Go.Proofs.YtocilianjfhifaaGreatDoor.Cov
/- Sums of lists of counts, and equality of coverages, on the reference's side; no condition but the bounds on lengths. -/
set_option linter.unusedSimpArgs false
set_option maxRecDepth 8000
namespace Go.Proofs.YtocilianjfhifaaGreatDoor.Cov
open Go Go.Proofs Go.Proofs.YtocilianjfhifaaGreatDoor.Sm Go.Proofs.YtocilianjfhifaaGreatDoor.Bins Go.RowKit

set_option maxHeartbeats 1000000 in
theorem AFS (G:Nat→AV) (a b:List Is) (s t:SM) (h:Hp) (hs:Sh2 a b):PCall (En G) 87 [.sl s 1 (a.map GG),.sl t 1 (b.map GG)] h (.sl (nm (JW a b)) 1 ((JW a b).map GG)):=by
 refine LA ANH ?_
 have hl:=hs.len
 have hn:=hs.num
 have hsl:=ADN a b hl
 refine BX (H:=hint [42] [(45,[44])]) (enM G) Tryz.func87 rfl (by kernel_rfl) (by kernel_rfl) (Nat.le_of_ble_eq_true (by kernel_rfl)) ?_
 show awp _ _ _ _ _ (EJ _ [.tmp 4] _)
 simp -implicitDefEqProofs only [CL,List.contains_cons,List.contains_nil,Nat.reduceBEq,Bool.or_false,A8,BM,AX,AZ,AU,A9,AJ,BA,AR,AC,AQ,BD,EX,A7,↓reduceIte,Option.getD_some,Bool.not_false,enP,Bool.false_eq_true,EE,List.length_map]
 refine CS (fun n F H => ∃ i,n+i=a.length∧F 0 = .sl s 1 (a.map GG)∧F 1 = .sl t 1 (b.map GG)∧F 6 = .int .i64 (i:Nat)∧ext h H∧outG 1 GG h ((JW a b).take i) (F 5) H) a.length ⟨0,by simp,by simp -implicitDefEqProofs only [AA,BC,↓reduceIte,Nat.reduceEqDiff],by simp -implicitDefEqProofs only [AA,BC,BP,↓reduceIte,Nat.reduceEqDiff],by simp -implicitDefEqProofs only [AA,↓reduceIte]; rfl,ext.rfl' h,by rw [List.take_zero]; exact outG.nil _ _ _ _⟩ ?_
 rintro n F H ⟨i,hi,f0,f1,f6,he,ho⟩
 simp -implicitDefEqProofs only [CL,List.contains_cons,List.contains_nil,Nat.reduceBEq,Bool.or_false,A8,AX,BF,AZ,AU,A9,AJ,BA,AR,AC,AA,AY,BB,BN,C8,AB,CO,↓reduceIte,Nat.reduceEqDiff,Option.getD_some,Bool.not_false,enP,WM,Bool.false_eq_true,EE,f0,f6,List.length_map]
 refine CG (fun hc => ?_) (fun hc => ?_)
 ·have ha:i < a.length:=by simpa using hc
  have hb:i < b.length:=by omega
  obtain ⟨r1,r2,r3,r4,r5⟩:=hs.row i ha hb
  have hSi:i < (JW a b).length:=by omega
  have hget:=ADO a b i ha hb hSi
  have htk:=List.take_succ_eq_append_getElem hSi
  rw [hget] at htk
  have hgl:=AID _ _ r1
  have hgi:=AIE a[i].l b[i].l
  have hgne:OG a[i].l b[i].l≠[]:=fun e=>r2 (List.eq_nil_of_length_eq_zero (by rw [← hgl,e]; rfl))
  have hadd:V8 a[i] b[i]=⟨.any,OG a[i].l b[i].l⟩:=by unfold V8; rw [APE hgne]
  rw [hadd] at htk
  generalize OG a[i].l b[i].l=g at hgl hgi hgne htk
  simp -implicitDefEqProofs only [CL,List.contains_cons,List.contains_nil,Nat.reduceBEq,Bool.or_false,A8,BM,AX,BK,AZ,AU,A9,AJ,BA,AR,AC,AQ,BD,EX,A7,↓reduceIte,Option.getD_some,Bool.not_false,Bool.false_eq_true,EE]
  refine FO 2 (fun F' H'=>F' 0 = .sl s 1 (a.map GG)∧F' 1 = .sl t 1 (b.map GG)∧F' 6 = .int .i64 (i:Nat)∧F' 5=F 5∧ext H H'∧outG 1 encI H g (F' 7) H') (fun _ _=>False) ?_ ?_ (fun _ _ hh=>hh.elim)
  ·refine CS (fun n F' H' => ∃ k,n+k=g.length∧F' 0 = .sl s 1 (a.map GG)∧F' 1 = .sl t 1 (b.map GG)∧F' 6 = .int .i64 (i:Nat)∧F' 5=F 5∧F' 8 = .int .i64 (k:Nat)∧ext H H'∧outG 1 encI H (g.take k) (F' 7) H') g.length ⟨0,by simp,by simp -implicitDefEqProofs only [AA,↓reduceIte,Nat.reduceEqDiff,f0],by simp -implicitDefEqProofs only [AA,↓reduceIte,Nat.reduceEqDiff,f1],by simp -implicitDefEqProofs only [AA,↓reduceIte,Nat.reduceEqDiff,f6],by simp -implicitDefEqProofs only [AA,↓reduceIte,Nat.reduceEqDiff],by simp -implicitDefEqProofs only [AA,↓reduceIte]; rfl,ext.rfl' H,by rw [List.take_zero]; exact outG.nil _ _ _ _⟩ ?_
   rintro n' F' H' ⟨k,hk,g0,g1,g6,g5,g8,ge,go⟩
   simp -implicitDefEqProofs only [CL,List.contains_cons,List.contains_nil,Nat.reduceBEq,Bool.or_false,A8,AX,BF,AZ,AU,A9,AJ,BA,AR,AC,AA,AY,BB,BL,BN,BU,C8,AB,CO,↓reduceIte,Nat.reduceEqDiff,Option.getD_some,Bool.not_false,enP,PK,GV,Bool.false_eq_true,EE,g0,g6,g8,CW ha,CP KA ha,LH,List.length_map]
   refine CG (fun hc => ?_) (fun hc => ?_)
   ·have hka:k < a[i].l.length:=by simpa using hc
    have hk':k < g.length:=by omega
    have hkb:k < b[i].l.length:=by omega
    have w1:=JA.1 (r3 _ (List.getElem_mem hka))
    have w2:=JA.1 (r4 _ (List.getElem_mem hkb))
    have hw:min (a[i].l[k]+b[i].l[k]) 1099511627776=g[k]:=(hgi k hka hkb hk').symm
    obtain ⟨v',H2,hap,ho',_,he',_,_⟩:=go.append ML sz3 RV RF (by omega) (by rw [List.length_take]; omega) ge g[k]
    rw [← List.take_succ_eq_append_getElem hk'] at ho'
    simp -implicitDefEqProofs only [A8,BM,BK,AZ]
    refine EG (by kernel_rfl) ?_
    simp -implicitDefEqProofs only [FJ,E8,FI,CL,List.contains_cons,List.contains_nil,Nat.reduceBEq,Bool.or_false,DT,CZ,DV,ET,I7,EN,GK,DN,FX,AA,AY,AQ,BD,EA,BL,BN,BU,AFG,FT,BO,AB,CR,ZX,↓reduceIte,Nat.reduceEqDiff,Nat.reduceAdd,Option.getD_some,enP,PK,IL,g0,g1,g6,g8,CW ha,CP KA ha,LH,CW hka,CP ag3 hka,encI0,CW hb,CP KA hb,CW hkb,CP ag3 hkb,wrap_i64 (n:=a[i].l[k]+b[i].l[k]) (by omega) (by omega),hw,U1]
    refine FK (v:=v') (h:=H2) hap ?_
    simp -implicitDefEqProofs only [FJ,CL,List.contains_cons,List.contains_nil,Nat.reduceBEq,Bool.or_false,DT,CZ,EO,DV,GM,AX,AZ,DU,DZ,AU,A9,AJ,BA,AR,AC,AA,AY,AQ,BD,BB,A7,BN,AB,CR,↓reduceIte,Nat.reduceEqDiff,Nat.reduceAdd,Option.getD_some,Bool.not_false,enP,Bool.false_eq_true,EE,g8,CB (show k < 9223372036854775807 by omega)]
    exact ⟨n' - 1,by omega,k+1,by omega,g0,g1,g6,g5,rfl,he',ho'⟩
   ·have hk' : ¬ k < a[i].l.length:=by simpa using hc
    rw [List.take_of_length_le (by omega)] at go
    simp -implicitDefEqProofs only [CU,DR,II,EF,AA,↓reduceIte,Nat.reduceEqDiff]
    exact ⟨g0,g1,g6,g5,ge,go⟩
  ·rintro F' H' ⟨g0,g1,g6,g5,ge,go⟩
   rcases go with ⟨e,_⟩ | ⟨_,o,o1,g7,o3⟩
   ·exact absurd e hgne
   have hz:=QK (H:=H') (i:=44) (off:=0) (len:=g.length) o3 (by simp) (by rw [List.drop_zero,List.take_of_length_le (by simp)]; exact AUX g)
   rw [List.drop_zero,List.take_of_length_le (by simp)] at hz
   have ho1:outG 1 GG h ((JW a b).take i) (F 5) (H'.set o .dead):=by
    obtain ⟨x,rfl⟩:=ge
    refine ho.keep fun b' hb' => ?_
    have:=ho.lt hb'
    rw [List.getElem?_set_ne (by omega),List.getElem?_append_left this.2]
   have he1:ext h (H'.set o .dead):=(he.trans ge).set (Nat.le_trans he.le o1) _
   obtain ⟨v',H2,hap,ho',_,he',_,_⟩:=ho1.append AFN ABO AIK AH1 (by omega) (by rw [List.length_take]; omega) he1 ⟨.any,g⟩
   simp -implicitDefEqProofs only [E8,FI,CL,List.contains_cons,List.contains_nil,Nat.reduceBEq,Bool.or_false,AX,AZ,EB,AU,AJ,BA,AR,AC,AA,AY,BB,EA,FT,BO,↓reduceIte,Nat.reduceEqDiff,Option.getD_some,Bool.not_false,enP,Bool.false_eq_true,EE,g5,g7,NQ,AJ,hz,ADK]
   refine FK (v:=v') (h:=H2) hap ?_
   simp -implicitDefEqProofs only [CL,List.contains_cons,List.contains_nil,Nat.reduceBEq,Bool.or_false,AX,AZ,DU,DZ,AU,A9,AJ,BA,AR,AC,AA,AY,AQ,BD,BB,A7,BN,AB,CR,↓reduceIte,Nat.reduceEqDiff,Option.getD_some,Bool.not_false,enP,Bool.false_eq_true,EE,g6,CB (show i < 9223372036854775807 by omega)]
   refine ⟨n - 1,by omega,i+1,by omega,g0,g1,rfl,he',?_⟩
   rw [htk]; exact ho'
 ·have ha : ¬ i < a.length:=by simpa using hc
  rw [List.take_of_length_le (by omega)] at ho
  simp -implicitDefEqProofs only [CL,List.contains_cons,List.contains_nil,Nat.reduceBEq,Bool.or_false,A8,AX,BJ,CU,AZ,DR,EB,EF,CK,AU,A9,AJ,BA,AR,AC,AA,AY,BB,A7,↓reduceIte,Nat.reduceEqDiff,Option.getD_some,Bool.not_false,Bool.false_eq_true,EE]
  exact ⟨he,ho⟩
/-- two coverages in two blocks -/
structure VV (h H:Hp) (a b:Cvr) (bb:Nat):Prop where
 ga:H[h.length]? = some (.live 4 [D5 a])
 gb:H[bb]? = some (.live 4 [D5 b])
 hx : ∃ x,H=h ++ x
theorem VV.mk' (h:Hp) (a b:Cvr):VV h (h ++ [.live 4 [D5 a]] ++ [.live 4 [D5 b]]) a b (h ++ [ABlk.live 4 [D5 a]]).length:=⟨C9 (CQ _ _),CQ _ _,⟨_,List.append_assoc _ _ _⟩⟩
section
variable {H:Hp} {v:Cvr} {vb:Nat} (gv:H[vb]? = some (.live 4 [D5 v]))
include gv
theorem lv0:D7 Tryz.prog H 26 (.ptr vb 0 0)=some (.sl v.pm 1 (v.pts.map GG)):=by rw [DX QR gv (row:=D5 v) rfl,AHG]
theorem lv1:D7 Tryz.prog H 26 (.ptr vb 0 1)=some (.sl v.cm 1 (v.crs.map GG)):=by rw [DX QR gv (row:=D5 v) rfl,AHF]
theorem lv2:D7 Tryz.prog H 3 (.ptr vb 0 2)=some (.int .i64 v.sam):=by rw [DX ag3 gv (row:=D5 v) rfl,AQH]
theorem lv3:D7 Tryz.prog H 3 (.ptr vb 0 3)=some (.int .i64 v.ill):=by rw [DX ag3 gv (row:=D5 v) rfl,AQG]
end
end Go.Proofs.YtocilianjfhifaaGreatDoor.Cov
/- Small things on heaps, results in cells, two lists that grow side by side; no condition. -/
namespace Go.Proofs.YtocilianjfhifaaGreatDoor.Cov
open Go Go.Proofs Go.Proofs.YtocilianjfhifaaGreatDoor.Sm Go.Proofs.YtocilianjfhifaaGreatDoor.Bins Go.RowKit

theorem AAV {P:Program} {a t:Nat} {R:AV→Hp→Prop} {F:Fr} {h:Hp} {x:AV} {b:Nat} (hF:F a = .ptr b 0 0) (h1:D7 P h t (.ptr b 0 0)=some x):EJ P [.cell a t] R .ret F h=R x h:=by simp [EJ,YB,QP,hF,h1]
theorem AWH {P:Program} {a t b u:Nat} {R:AV→Hp→Prop} {F:Fr} {h:Hp} {x y:AV} {ba bb:Nat} (hF:F a = .ptr ba 0 0) (hG:F b = .ptr bb 0 0) (h1:D7 P h t (.ptr ba 0 0)=some x) (h2:D7 P h u (.ptr bb 0 0)=some y):EJ P [.cell a t,.cell b u] R .ret F h=R (.tup [x,y]) h:=by simp [EJ,YB,PD,QP,hF,hG,h1,h2]
theorem YZ {P:Program} {a t b u c:Nat} {R:AV→Hp→Prop} {F:Fr} {h:Hp} {x y:AV} {ba bb:Nat} (hF:F a = .ptr ba 0 0) (hG:F b = .ptr bb 0 0) (h1:D7 P h t (.ptr ba 0 0)=some x) (h2:D7 P h u (.ptr bb 0 0)=some y):EJ P [.cell a t,.cell b u,.tmp c] R .ret F h=R (.tup [x,y,F c]) h:=by simp [EJ,YB,PD,QP,hF,hG,h1,h2]
theorem NH {P:Program} {a t c:Nat} {R:AV→Hp→Prop} {F:Fr} {h:Hp} {x:AV} {ba:Nat} (hF:F a = .ptr ba 0 0) (h1:D7 P h t (.ptr ba 0 0)=some x):EJ P [.cell a t,.tmp c] R .ret F h=R (.tup [x,F c]) h:=by simp [EJ,YB,PD,QP,hF,h1]
/-- what a growing list is frozen to -/
def fzG {α:Type} (k:Nat) (f:α→List AV) (ys:List α):AV:=match ys with
 | [] => .sl .nil 0 []
 | _ => .sl .any k (ys.map f)
theorem O4 {α:Type} {k:Nat} {f:α→List AV} {h H:Hp} {ys:List α} {v:AV} (hf:Frz f) (ho:outG k f h ys v H) (n d:Nat) (hn:n≤h.length):IM n H (d+2) v=fzG k f ys:=by
 rcases ho with ⟨rfl,rfl⟩ | ⟨hne,o,h2,rfl,h3⟩
 ·rfl
 ·rw [VM hf (Nat.le_trans hn h2) h3]
  cases ys with
  | nil=>exact absurd rfl hne
  | cons _ _=>rfl
theorem UW {α:Type} {k:Nat} {f:α→List AV} {ys:List α}:CvR (fzG k f ys) (.sl (nm ys) k (ys.map f)):=by
 cases ys with
 | nil=>exact CvR.sl (Cv.nil 0 k)
 | cons y ys=>exact CvR.refl _
/-- appending, whatever lies below -/
theorem outG.app2 {P:Program} {t e:TypeId} {α:Type} {k bs:Nat} {f:α→List AV} {h H:Hp} {ys:List α} {v:AV} (ho:outG k f h ys v H) (hu:P.underlying t=some (.slice e)) (hs:szO P e=some k) (hz:PG P e=some k) (hb:KD P e=some bs) (hbs:bs≤4194304) (hl:ys.length < 8388608) (he:h.length≤H.length) (y:α) :
  ∃ v' H',F5 P true H t t v (.sl .full k [f y])=some (v',H')∧outG k f h (ys ++ [y]) v' H'∧(∀ b x,H[b]? = some x→¬ isB v b→H'[b]? = some x)∧H'.length=H.length+1∧(∀ b,isB v' b→b=H.length)∧(∃ o l,v' = .own o 0 l)∧∀ e:Hp,e.length≤h.length→ext e H→ext e H':=by
 have h1:([f y]:List (List AV))≠[]:=by simp
 rcases ho with ⟨rfl,rfl⟩ | ⟨hne,o,h2,rfl,h3⟩
 ·exact ⟨_,_,V4 hu hs hz hb (J7 H .full k [f y]) h1 (JY (by simp) hbs),.inr ⟨by simp,H.length,he,rfl,by simp⟩,fun b x hb _=>H6 hb,by simp,fun b hb=>hb.symm,⟨_,_,rfl⟩,fun e _ hx=>hx.app _⟩
 ·have hc:JL H (.own o 0 ys.length)=some (k,ys.map f):=by
   rw [OO h3 (by simp),List.drop_zero,List.take_of_length_le (by simp)]
  refine ⟨_,_,Y2 hu hs hz hb hc (J7 H .full k [f y]) h1 (JY (by simp; omega) hbs),.inr ⟨by simp,H.length,he,by simp,by simp⟩,fun b x hb hn => ?_,by simp,fun b hb=>hb.symm,⟨_,_,rfl⟩,fun e hl hx=>(hx.set (Nat.le_trans hl h2) _).app _⟩
  have hn' : ¬ o=b:=hn
  refine H6 ?_
  rw [List.getElem?_set,if_neg hn']; exact hb
/-- a variable of one row is written -/
theorem NL {P:Program} {H:Hp} {t b k j:Nat} {row cs:List AV} {v:AV} (hc:IV v=some cs) (hs:szO P t=some cs.length) (hb:H[b]? = some (.live k [row])) (hl:j+cs.length≤row.length):FQ P H t (.ptr b 0 j) v=some (H.set b (.live k [splice row j cs])):=by
 rw [KV (i:=0) hc hs hb rfl hl]; rfl
theorem mkF (h:Hp) (n:Nat) (hn:n≤1048576):IY Tryz.prog false h 57 (.int .i64 (n:Int)) (.int .i64 (n:Int))=some (.sl .full 1 ((zeros n).map encI),h):=by
 have hz:L8 Tryz.prog 3=some [.int .i64 0]:=by kernel_rfl
 have hr:room n 8:=JY (by omega) (by omega)
 unfold IY
 simp only [ML,sz3,RF,hz,Int.toNat_natCast]
 rw [if_pos ⟨by omega,Int.le_refl _,hr,rfl⟩]
 simp [zeros,encI]
/-- a track -/
structure Tk where
 m:SM
 last:List Is
def MW (t:Tk):List AV := [.sl t.m 1 (t.last.map GG)]
theorem AHH (t:Tk):(MW t).length=1:=rfl
def zT:Tk:=⟨.nil,[]⟩
def zV:Cvr:=⟨.nil,[],.nil,[],0,0⟩
def zLs (m:Mo):List Is:=m.pts.map fun _=>⟨.nil,[]⟩
def IZ:List AV := [.sl .nil 0 []]
theorem AV7 {α:Type}:Frz (fun _:α=>IZ):=fun _ _ _ _=>⟨rfl,rfl⟩
theorem ASJ:CvRow IZ (GG ⟨.nil,[]⟩):=CvRow.cons rfl (Cv.nil 0 1) CvRow.nil
theorem AK5 {α:Type} {s:SM} (xs:List α):Cv (.sl s 1 (xs.map fun _=>IZ)) (.sl s 1 ((xs.map fun _=>(⟨.nil,[]⟩:Is)).map GG)):=by
 rw [List.map_map]
 exact Cv.map fun _ _=>ASJ
theorem AON:CvR (.agg [.sl .nil 0 [],.sl .nil 0 [],.int .i64 0,.int .i64 0]) (.agg (D5 zV)):=CvR.agg (CvRL.cons (CvR.sl (Cv.nil 0 1)) (CvRL.cons (CvR.sl (Cv.nil 0 1)) (CvRL.cons (CvR.refl _) (CvRL.cons (CvR.refl _) CvRL.nil))))
theorem AW9:CvR (.agg [.sl .nil 0 []]) (.agg (MW zT)):=CvR.agg (CvRL.cons (CvR.sl (Cv.nil 0 1)) CvRL.nil)
def FV:List AV := [.sl .nil 0 [],.sl .nil 0 [],.int .i64 0,.int .i64 0]
theorem KN (h:Hp):JN Tryz.prog h 28=some (.ptr h.length 0 0,h ++ [.live 4 [FV]]):=JC (row:=FV) (by kernel_rfl)
theorem ACA (h:Hp):JN Tryz.prog h 47=some (.ptr h.length 0 0,h ++ [.live 1 [IZ]]):=JC (row:=IZ) (by kernel_rfl)
theorem UH:JX Tryz.prog 28 []=some (.agg FV):=by kernel_rfl
theorem AVB:JX Tryz.prog 47 []=some (.agg IZ):=by kernel_rfl
theorem stV {H:Hp} {b:Nat} {row:List AV} {v:Cvr} (hb:H[b]? = some (.live 4 [row])) (hr:row.length=4):FQ Tryz.prog H 28 (.ptr b 0 0) (.agg (D5 v))=some (H.set b (.live 4 [D5 v])):=by
 rw [NL (cs:=D5 v) rfl PY hb (by rw [hr]; exact Nat.le_refl 4)]
 have:splice row 0 (D5 v)=D5 v:=by unfold splice; simp [JQ,hr]
 rw [this]
theorem stZ {H:Hp} {b:Nat} {row:List AV} (hb:H[b]? = some (.live 4 [row])) (hr:row.length=4):FQ Tryz.prog H 28 (.ptr b 0 0) (.agg FV)=some (H.set b (.live 4 [FV])):=by
 rw [NL (cs:=FV) rfl PY hb (by rw [hr]; exact Nat.le_refl 4)]
 have:splice row 0 FV=FV:=by unfold splice; simp [FV,hr]
 rw [this]
theorem stT {H:Hp} {b:Nat} {row:List AV} {t:Tk} (hb:H[b]? = some (.live 1 [row])) (hr:row.length=1):FQ Tryz.prog H 47 (.ptr b 0 0) (.agg (MW t))=some (H.set b (.live 1 [MW t])):=by
 rw [NL (cs:=MW t) rfl AOU hb (by rw [hr]; exact Nat.le_refl 1)]
 have:splice row 0 (MW t)=MW t:=by unfold splice; rw [AHH,List.take_zero,List.drop_eq_nil_of_le (by omega)]; simp
 rw [this]
theorem AUJ {H:Hp} {b:Nat} {row:List AV} (hb:H[b]? = some (.live 1 [row])) (hr:row.length=1):FQ Tryz.prog H 47 (.ptr b 0 0) (.agg IZ)=some (H.set b (.live 1 [IZ])):=by
 rw [NL (cs:=IZ) rfl AOU hb (by rw [hr]; exact Nat.le_refl 1)]
 have:splice row 0 IZ=IZ:=by unfold splice; rw [List.take_zero,List.drop_eq_nil_of_le (by rw [hr]; exact Nat.le_refl 1)]; simp
 rw [this]
theorem ldT {h:Hp} {b:Nat} {t:Tk} (hb:h[b]? = some (.live 1 [MW t])):D7 Tryz.prog h 47 (.ptr b 0 0)=some (.agg (MW t)):=by
 rw [IK AYQ AOU hb rfl (by rw [AHH]; exact Nat.le_refl 1)]; rfl
theorem LB {h:Hp} {b:Nat} {row:List AV} (hb:h[b]? = some (.live 4 [row])) (hr:row.length=4):D7 Tryz.prog h 28 (.ptr b 0 0)=some (.agg row):=by
 rw [IK V6 PY hb rfl (by rw [hr]; exact Nat.le_refl 4),List.drop_zero,List.take_of_length_le (by omega)]
theorem VG {h:Hp} {b:Nat} {row:List AV} (hb:h[b]? = some (.live 1 [row])) (hr:row.length=1):D7 Tryz.prog h 47 (.ptr b 0 0)=some (.agg row):=by
 rw [IK AYQ AOU hb rfl (by rw [hr]; exact Nat.le_refl 1),List.drop_zero,List.take_of_length_le (by omega)]
end Go.Proofs.YtocilianjfhifaaGreatDoor.Cov
/- Merging coverages: what Merge and All give, and what the measures say of sums; no condition. -/
namespace Go.Proofs.YtocilianjfhifaaGreatDoor.Cov
open Go Go.Proofs Go.Proofs.YtocilianjfhifaaGreatDoor.Sm Go.Proofs.YtocilianjfhifaaGreatDoor.Bins Go.RowKit

theorem AMY {ns:List Nat} (h : ∀ n∈ns,1≤n):1≤FM ns:=ZQ ns 0 h
/-- what fits is of moderate size -/
theorem AEM {α:Type} {ok:α→Is→Bool} : ∀ {ws:List α} {xs:List Is},J2 ok ws xs=true→∀ x∈xs,∃ a∈ws,ok a x=true
 | [],[],_,x,hx=>by cases hx
 | a :: ws,y :: xs,h,x,hx=>by
   simp only [J2,Bool.and_eq_true] at h
   rcases List.mem_cons.1 hx with rfl | hx
   ·exact ⟨a,by simp,h.1⟩
   ·obtain ⟨b,hb,hk⟩:=AEM h.2 x hx
    exact ⟨b,by simp [hb],hk⟩
 | [],_ :: _,h,_,_=>by cases h
 | _ :: _,[],h,_,_=>by cases h
theorem AD1 {m:Mo} {v:Cvr} (h:E9 m v=true):v.pts.length=m.pts.length∧v.crs.length=m.crs.length∧(∀ x∈v.pts,1≤x.l.length∧x.l.length≤64)∧(∀ x∈v.crs,1≤x.l.length∧x.l.length≤256):=by
 have hg:=JF (KS h)
 rw [IP] at h
 obtain ⟨_,h2,h3,_,_⟩:=h
 refine ⟨(MO h2).symm,(MO h3).symm,fun x hx => ?_,fun x hx => ?_⟩
 ·obtain ⟨p,hp,hk⟩:=AEM h2 x hx
  have:=hg.full p hp
  rw [AK3 hk]; exact this
 ·obtain ⟨c,hc,hk⟩:=AEM h3 x hx
  have hcg:=hg.crs c hc
  have hs:=hg.full.szs hcg.here
  rw [AK4 hk]
  exact ⟨AMY fun n hn=>(hs n hn).1,hcg.prod⟩
theorem NC {m:Mo} {v:Cvr} (h:E9 m v=true):CvOk v:=by
 have hn:=(JF (KS h)).num
 obtain ⟨h1,h2,h3,h4⟩:=AD1 h
 exact ⟨by omega,by omega,fun x hx=>by have:=h3 x hx; omega,fun x hx=>by have:=h4 x hx; omega⟩
theorem AO1 {α:Type} {ok:α→Is→Bool} {n:α→Nat} (hok : ∀ a x,ok a x=true→x.l.length=n a∧WL x.l) {ws:List α} {a b:List Is} (ha:J2 ok ws a=true) (hb:J2 ok ws b=true) (hr : ∀ x∈a,1≤x.l.length∧x.l.length≤256) (hl:a.length≤1048576):Sh2 a b:=by
 have h1:=MO ha
 have h2:=MO hb
 refine ⟨by omega,fun i hi hj => ?_,hl⟩
 have hw:i < ws.length:=by omega
 obtain ⟨x,hx,kx⟩:=O5 ha i ws[i] (List.getElem?_eq_getElem hw)
 obtain ⟨y,hy,ky⟩:=O5 hb i ws[i] (List.getElem?_eq_getElem hw)
 rw [List.getElem?_eq_getElem hi] at hx
 rw [List.getElem?_eq_getElem hj] at hy
 cases hx; cases hy
 have q:=hr _ (List.getElem_mem hi)
 refine ⟨by rw [(hok _ _ kx).1,(hok _ _ ky).1],fun e => ?_,(hok _ _ kx).2,(hok _ _ ky).2,by omega⟩
 rw [e] at q; simp at q
theorem AKT {m:Mo} {a b:Cvr} (ha:E9 m a=true) (hb:E9 m b=true):Sh2 a.pts b.pts:=by
 have hr:=AD1 ha
 have hn:=(JF (KS ha)).num
 exact AO1 (n:=fun p:Pt=>p.bins.length) (fun _ _ h=>⟨AK3 h,ZU h⟩) (IP.1 ha).2.1 (IP.1 hb).2.1 (fun x hx=>by have:=hr.2.2.1 x hx; omega) (by omega)
theorem AKU {m:Mo} {a b:Cvr} (ha:E9 m a=true) (hb:E9 m b=true):Sh2 a.crs b.crs:=by
 have hr:=AD1 ha
 have hn:=(JF (KS ha)).num
 exact AO1 (n:=fun c:Cr=>FM (szs m c.pts)) (fun _ _ h=>⟨AK4 h,ZV h⟩) (IP.1 ha).2.2.1 (IP.1 hb).2.2.1 (fun x hx=>hr.2.2.2 x hx) (by omega)
/-- what All gives -/
def ARA (m:Mo) (l:List Cvr):Cvr:=l.foldl ND (JG m)
def NV (m:Mo) (l:List Cvr):Int:=if FH m=0 then (if l.all (E9 m)=true then 0 else 1) else FH m
def LF (m:Mo) (l:List Cvr):Cvr:=if NV m l=0 then ARA m l else zV
theorem OT {m:Mo} {l:List Cvr}:NV m l=0↔FH m=0∧∀ v∈l,E9 m v=true:=by
 unfold NV
 split
 ·rename_i h
  split
  ·rename_i h2
   exact ⟨fun _=>⟨h,List.all_eq_true.1 h2⟩,fun _=>rfl⟩
  ·rename_i h2
   exact ⟨fun e=>by omega,fun e=>absurd (List.all_eq_true.2 e.2) h2⟩
 ·rename_i h
  exact ⟨fun e=>absurd e h,fun e=>absurd e.1 h⟩
theorem TN {m:Mo} : ∀ (l:List Cvr) (c:Cvr),E9 m c=true→(∀ v∈l,E9 m v=true)→E9 m (l.foldl ND c)=true
 | [],_,h,_=>h
 | v :: l,c,h,hl=>TN l (ND c v) (AC5 h (hl v (by simp))) fun w hw=>hl w (by simp [hw])
theorem ADL {m:Mo} {l:List Cvr} (h:NV m l=0):E9 m (LF m l)=true:=by
 have:=OT.1 h
 unfold LF
 rw [if_pos h]
 exact TN l _ (MI this.1) this.2
/-- what the reference's Merge gives -/
def AM6 (m:Mo) (a b:Cvr):Cvr:=if NV m [a,b]=0 then ND a b else zV
theorem AIA {m:Mo} {a b:Cvr} (ha:E9 m a=true) (hb:E9 m b=true):NV m [a,b]=0:=OT.2 ⟨KS ha,fun v hv=>by
 simp at hv; rcases hv with rfl | rfl <;> assumption⟩
/- counts of goals -/
def ADI (l:List (List Int)) (i k:Nat):Int:=match l[i]? with
 | some x=>(match x[k]? with | some z=>z | none=>0)
 | none=>0
theorem LY (l:List Is) (i k:Nat):cellAt l i k=ADI (l.map (·.l)) i k:=by
 unfold cellAt ADI
 rw [List.getElem?_map]
 cases l[i]? <;> rfl
theorem ADH {a b:List (List Int)} {i k:Nat} (ha : ∃ x z,a[i]? = some x∧x[k]? = some z) (hb : ∃ x z,b[i]? = some x∧x[k]? = some z):ADI (V7 a b) i k=TA (ADI a i k) (ADI b i k):=by
 obtain ⟨x,z,h1,h2⟩:=ha
 obtain ⟨y,u,k1,k2⟩:=hb
 have e1:(V7 a b)[i]? = some (OG x y):=by unfold V7; rw [List.getElem?_zipWith,h1,k1]
 have e2:(OG x y)[k]? = some (TA z u):=by unfold OG; rw [List.getElem?_zipWith,h2,k2]
 unfold ADI
 simp only [e1,e2,h1,h2,k1,k2]
theorem YN {l:List Is} {i k:Nat} (h:InL l i k) : ∃ x z,(l.map (·.l))[i]? = some x∧x[k]? = some z:=by
 obtain ⟨hi,hk⟩:=h
 exact ⟨l[i].l,l[i].l[k],by rw [List.getElem?_map,List.getElem?_eq_getElem hi]; rfl,List.getElem?_eq_getElem hk⟩
theorem AJU {a b:Cvr} (h:VX a=VX b) (g:Gl):F8 a g=F8 b g:=by
 unfold VX at h
 simp only [Dat.mk.injEq] at h
 unfold F8
 rw [LY,LY,LY,LY,h.1,h.2.1]
theorem AAA {l:List Is} (hw : ∀ x∈l,WL x.l) {i k:Nat} (h:InL l i k):GR (cellAt l i k)=true:=by
 obtain ⟨hi,hk,e⟩:=QO h
 rw [e]
 exact hw _ (List.getElem_mem hi) _ (List.getElem_mem hk)
theorem UF {m:Mo} {v:Cvr} (hf:E9 m v=true) {g:Gl} (hg:g∈goals m):GR (F8 v g)=true:=by
 have hi:=UU hf hg
 rw [IP] at hf
 obtain ⟨_,h2,h3,_,_⟩:=hf
 unfold InR at hi
 unfold F8
 split
 ·rename_i hc
  rw [if_pos hc] at hi
  exact AAA (AAP (ok:=okC m) (fun _ _ h=>ZV h) h3) hi
 ·rename_i hc
  rw [if_neg hc] at hi
  exact AAA (AAP (ok:=okP) (fun _ _ h=>ZU h) h2) hi
theorem AJV {m:Mo} {a b c:Cvr} (ha:E9 m a=true) (hb:E9 m b=true) (hc:VX c=ARH (VX a) (VX b)) {g:Gl} (hg:g∈goals m):F8 c g=TA (F8 a g) (F8 b g):=by
 rw [AJU (b:=ND a b) (by rw [hc,AA0])]
 have h1:=UU ha hg
 have h2:=UU hb hg
 have e:=AA0 a b
 unfold VX ARH at e
 simp only [Dat.mk.injEq] at e
 unfold InR at h1 h2
 unfold F8
 split
 ·rename_i hx
  rw [if_pos hx] at h1 h2
  rw [LY,e.2.1,ADH (YN h1) (YN h2),← LY,← LY]
 ·rename_i hx
  rw [if_neg hx] at h1 h2
  rw [LY,e.1,ADH (YN h1) (YN h2),← LY,← LY]
theorem AQR {m:Mo} {a b c:Cvr} (ha:E9 m a=true) (hb:E9 m b=true) (hc:VX c=ARH (VX a) (VX b)) {g:Gl} (hg:g∈goals m):decide (F8 c g > 0)=(decide (F8 a g > 0) || decide (F8 b g > 0)):=by
 rw [AJV ha hb hc hg,ARG (UF ha hg) (UF hb hg)]
theorem ANZ {α:Type} (p q:α→Bool) (l:List α):l.countP (fun x=>p x || q x)=l.countP p+l.countP (fun x=>q x && !p x):=by
 induction l with
 | nil=>rfl
 | cons x l ih =>
   simp only [List.countP_cons,ih]
   cases p x <;> cases q x <;> simp <;> omega
end Go.Proofs.YtocilianjfhifaaGreatDoor.Cov
/- The coverage without samples: the program; no condition but the bounds on lengths. -/
set_option linter.unusedSimpArgs false
set_option maxRecDepth 8000
namespace Go.Proofs.YtocilianjfhifaaGreatDoor.Cov
open Go Go.Proofs Go.Proofs.YtocilianjfhifaaGreatDoor.Sm Go.Proofs.YtocilianjfhifaaGreatDoor.Bins Go.RowKit

theorem outG.setB {α:Type} {k:Nat} {f:α→List AV} {h H:Hp} {ys:List α} {v:AV} {b:Nat} (ho:outG k f h ys v H) (hb:b < h.length) (y:ABlk):outG k f h ys v (H.set b y) :=
 ho.keep fun b' hb'=>by
  have:=ho.lt hb'
  rw [List.getElem?_set_ne (by omega)]
theorem outG.keepA {α:Type} {k:Nat} {f:α→List AV} {h H H':Hp} {ys:List α} {v u:AV} (ho:outG k f h ys v H) (hk : ∀ b x,H[b]? = some x→¬ isB u b→H'[b]? = some x) (hd : ∀ b,isB v b→¬ isB u b):outG k f h ys v H':=by
 rcases ho with h1 | ⟨h1,o,h2,rfl,h3⟩
 ·exact .inl h1
 ·exact .inr ⟨h1,o,h2,rfl,hk _ _ h3 (hd o rfl)⟩
theorem outG.leaf {α:Type} {k:Nat} {f:α→List AV} {h H:Hp} {ys:List α} {v:AV} (ho:outG k f h ys v H):v.leaf=true:=by
 rcases ho with ⟨_,rfl⟩ | ⟨_,o,_,rfl,_⟩ <;> rfl
theorem outG.base {α:Type} {k:Nat} {f:α→List AV} {h h' H:Hp} {ys:List α} {v:AV} (ho:outG k f h ys v H) (hl:h'.length≤h.length):outG k f h' ys v H:=by
 rcases ho with h1 | ⟨h1,o,h2,rfl,h3⟩
 ·exact .inl h1
 ·exact .inr ⟨h1,o,Nat.le_trans hl h2,rfl,h3⟩
def KF (v1 v2:AV):List AV := [v1,v2,.int .i64 0,.int .i64 0]
structure Em (h H:Hp) (m:Mo) (b2 b3 b4 b5:Nat) (v1 v2 v3:AV):Prop where
 gm:H[h.length]? = some (.live 2 [DC m])
 g2:H[b2]? = some (.live 4 [FV])
 g3:H[b3]? = some (.live 1 [IZ])
 g4:H[b4]? = some (.live 4 [KF v1 v2])
 g5:H[b5]? = some (.live 1 [[v3]])
 o2:h.length < b2
 o3:b2 < b3
 o4:b3 < b4
 o5:b4 < b5
 hx:ext h H
section
variable {h H:Hp} {m:Mo} {b2 b3 b4 b5:Nat} {v1 v2 v3:AV} (E:Em h H m b2 b3 b4 b5 v1 v2 v3)
include E
theorem Em.m0:D7 Tryz.prog H 22 (.ptr h.length 0 0)=some (.sl m.pm 6 (m.pts.map G9)):=by rw [DX TW E.gm (row:=DC m) rfl,O7]
theorem Em.m1:D7 Tryz.prog H 23 (.ptr h.length 0 1)=some (.sl m.cm 3 (m.crs.map GH)):=by rw [DX XA E.gm (row:=DC m) rfl,RO]
theorem Em.l4:D7 Tryz.prog H 26 (.ptr b4 0 0)=some v1:=by rw [DX QR E.g4 (row:=KF v1 v2) rfl]; rfl
theorem Em.l4':D7 Tryz.prog H 26 (.ptr b4 0 1)=some v2:=by rw [DX QR E.g4 (row:=KF v1 v2) rfl]; rfl
theorem Em.l5:D7 Tryz.prog H 26 (.ptr b5 0 0)=some v3:=by rw [DX QR E.g5 (row := [v3]) rfl]; rfl
theorem Em.app (x:Hp):Em h (H ++ x) m b2 b3 b4 b5 v1 v2 v3:=⟨H6 E.gm,H6 E.g2,H6 E.g3,H6 E.g4,H6 E.g5,E.o2,E.o3,E.o4,E.o5,E.hx.app _⟩
theorem Em.keep {H':Hp} {u:AV} (hk : ∀ b x,H[b]? = some x→¬ isB u b→H'[b]? = some x) (hu : ∀ b,isB u b→b5 < b) (hx:ext h H→ext h H'):Em h H' m b2 b3 b4 b5 v1 v2 v3:=by
 have o2:=E.o2; have o3:=E.o3; have o4:=E.o4; have o5:=E.o5
 exact ⟨hk _ _ E.gm (fun e=>by have:=hu _ e; omega),hk _ _ E.g2 (fun e=>by have:=hu _ e; omega),hk _ _ E.g3 (fun e=>by have:=hu _ e; omega),hk _ _ E.g4 (fun e=>by have:=hu _ e; omega),hk _ _ E.g5 (fun e=>by have:=hu _ e; omega),o2,o3,o4,o5,hx E.hx⟩
theorem Em.set4 (w1 w2:AV):Em h (H.set b4 (.live 4 [KF w1 w2])) m b2 b3 b4 b5 w1 w2 v3:=by
 have o2:=E.o2; have o3:=E.o3; have o4:=E.o4; have o5:=E.o5
 exact ⟨EP E.gm (by omega),EP E.g2 (by omega),EP E.g3 (by omega),EI E.g4,EP E.g5 (by omega),o2,o3,o4,o5,E.hx.set (by omega) _⟩
theorem Em.set5 (w3:AV):Em h (H.set b5 (.live 1 [[w3]])) m b2 b3 b4 b5 v1 v2 w3:=by
 have o2:=E.o2; have o3:=E.o3; have o4:=E.o4; have o5:=E.o5
 exact ⟨EP E.gm (by omega),EP E.g2 (by omega),EP E.g3 (by omega),EP E.g4 (by omega),EI E.g5,o2,o3,o4,o5,E.hx.set (by omega) _⟩
theorem Em.s4 {o l:Nat}:FQ Tryz.prog H 26 (.ptr b4 0 0) (.own o 0 l)=some (H.set b4 (.live 4 [KF (.own o 0 l) v2])):=NL (row:=KF v1 v2) (ABG _ _ _) AOV E.g4 (by simp [KF])
theorem Em.s4' {o l:Nat}:FQ Tryz.prog H 26 (.ptr b4 0 1) (.own o 0 l)=some (H.set b4 (.live 4 [KF v1 (.own o 0 l)])):=NL (row:=KF v1 v2) (ABG _ _ _) AOV E.g4 (by simp [KF])
theorem Em.s5 {o l:Nat}:FQ Tryz.prog H 26 (.ptr b5 0 0) (.own o 0 l)=some (H.set b5 (.live 1 [[.own o 0 l]])):=NL (row := [v3]) (ABG _ _ _) AOV E.g5 (by simp)
theorem Em.lt:b5 < H.length:=CE E.g5
end
theorem Em.mk' (h:Hp) (m:Mo):Em h (h ++ [ABlk.live 2 [DC m]] ++ [ABlk.live 4 [FV]] ++ [ABlk.live 1 [IZ]] ++ [ABlk.live 4 [FV]] ++ [ABlk.live 1 [IZ]]) m (h ++ [ABlk.live 2 [DC m]]).length (h ++ [ABlk.live 2 [DC m]] ++ [ABlk.live 4 [FV]]).length
  (h ++ [ABlk.live 2 [DC m]] ++ [ABlk.live 4 [FV]] ++ [ABlk.live 1 [IZ]]).length (h ++ [ABlk.live 2 [DC m]] ++ [ABlk.live 4 [FV]] ++ [ABlk.live 1 [IZ]] ++ [ABlk.live 4 [FV]]).length (.sl .nil 0 []) (.sl .nil 0 []) (.sl .nil 0 []) :=
 ⟨C9 (C9 (C9 (C9 (CQ _ _)))),C9 (C9 (C9 (CQ _ _))),C9 (C9 (CQ _ _)),C9 (CQ _ _),CQ _ _,by simp,by simp,by simp,by simp,((((ext.rfl' h).app _).app _).app _).app _ |>.app _⟩
theorem AX9 (h:Hp):FC Tryz.prog false h 26 1 [(0,.sl .nil 0 [])]=some (.sl .full 1 [IZ],h):=by kernel_rfl
theorem AFE (m:Mo) (i:Nat) (hi:i < m.pts.length):(zPs m).take (i+1)=(zPs m).take i ++ [zIs m.pts[i].bins.length]:=by
 have hl:i < (zPs m).length:=by unfold zPs; simpa using hi
 rw [List.take_succ_eq_append_getElem hl]; simp [zPs]
theorem AFF (m:Mo) (i:Nat) (hi:i < m.crs.length):(zCs m).take (i+1)=(zCs m).take i ++ [zIs (FM (szs m m.crs[i].pts))]:=by
 have hl:i < (zCs m).length:=by unfold zCs; simpa using hi
 rw [List.take_succ_eq_append_getElem hl]; simp [zCs]
theorem YC (m:Mo):(zPs m).length=m.pts.length:=by simp [zPs]
theorem YD (m:Mo):(zCs m).length=m.crs.length:=by simp [zCs]
/-- what an empty coverage and track are frozen to -/
theorem AJO {E:Env} {f:FuncId} {args:List AV} {h:Hp} {m:Mo} (hc:ACalls E f args h fun v H=>ext h H∧∃ v1 v2 v3,v = .tup [.agg (KF v1 v2),.agg [v3]]∧outG 1 GG h (zPs m) v1 H∧outG 1 GG h (zCs m) v2 H∧outG 1 (fun _:Pt=>IZ) h m.pts v3 H) :
  PCall E f args h (.tup [.agg (D5 (JG m)),.agg (MW ⟨nm (zLs m),zLs m⟩)]):=by
 have hp:PCall E f args h (.tup [.agg (KF (fzG 1 GG (zPs m)) (fzG 1 GG (zCs m))),.agg [fzG 1 (fun _:Pt=>IZ) m.pts]]):=by
  refine ACalls.pure 4 hc ?_
  rintro v H ⟨he,v1,v2,v3,rfl,o1,o2,o3⟩
  refine ⟨he,?_⟩
  have e1:=O4 ANH o1 h.length 0 (Nat.le_refl _)
  have e2:=O4 ANH o2 h.length 0 (Nat.le_refl _)
  have e3:=O4 AV7 o3 h.length 0 (Nat.le_refl _)
  show AV.tup [.agg [IM h.length H 2 v1,IM h.length H 2 v2,.int .i64 0,.int .i64 0],.agg [IM h.length H 2 v3]]=_
  rw [e1,e2,e3]; rfl
 refine hp.res (CvR.tup (CvRL.cons (CvR.agg (CvRL.cons UW (CvRL.cons UW (CvRL.refl _)))) (CvRL.cons (CvR.agg (CvRL.cons ?_ CvRL.nil)) CvRL.nil)))
 have h1:CvR (fzG 1 (fun _:Pt=>IZ) m.pts) (.sl (nm m.pts) 1 (m.pts.map fun _=>IZ)):=UW
 have h2:=CvR.sl (AK5 (s:=nm m.pts) m.pts)
 have h3:nm (zLs m)=nm m.pts:=by unfold zLs; cases m.pts <;> rfl
 intro g cv hr
 have:=h2 g cv (h1 g cv hr)
 rw [h3]; exact this
theorem AUL {H:Hp} {b:Nat} {row:List AV} {v1 v2:AV} (hb:H[b]? = some (.live 4 [row])) (hr:row.length=4) (h1:v1.leaf=true) (h2:v2.leaf=true):FQ Tryz.prog H 28 (.ptr b 0 0) (.agg (KF v1 v2))=some (H.set b (.live 4 [KF v1 v2])):=by
 rw [NL (cs:=KF v1 v2) (TB (by simp [KF,h1,h2]; rfl)) PY hb (by rw [hr]; exact Nat.le_refl 4)]
 have:splice row 0 (KF v1 v2)=KF v1 v2:=by unfold splice; rw [List.take_zero,List.drop_eq_nil_of_le (by rw [hr]; exact Nat.le_refl 4)]; simp
 rw [this]
theorem AUK {H:Hp} {b:Nat} {row:List AV} {v3:AV} (hb:H[b]? = some (.live 1 [row])) (hr:row.length=1) (h3:v3.leaf=true):FQ Tryz.prog H 47 (.ptr b 0 0) (.agg [v3])=some (H.set b (.live 1 [[v3]])):=by
 rw [NL (cs := [v3]) (TB (by simp [h3])) AOU hb (by rw [hr]; exact Nat.le_refl 1)]
 have:splice row 0 [v3] = [v3]:=by unfold splice; rw [List.take_zero,List.drop_eq_nil_of_le (by rw [hr]; exact Nat.le_refl 1)]; simp
 rw [this]
set_option maxHeartbeats 2000000 in
theorem AJP (G:Nat→AV) (m:Mo) (hm:MoOk m) (hg:Good m) (h:Hp):PCall (En G) 127 [.agg (DC m)] h (.tup [.agg (D5 (JG m)),.agg (MW ⟨nm (zLs m),zLs m⟩)]):=by
 refine AJO ?_
 have hm1:=hm.np
 have hm2:=hm.nc
 have hnum:=hg.num
 refine BX (H:=hint [24,47] []) (enM G) Tryz.func127 rfl (by kernel_rfl) (by kernel_rfl) (Nat.le_of_ble_eq_true (by kernel_rfl)) ?_
 show awp _ _ _ _ _ (EJ _ [.cell 2 28,.cell 3 47] _)
 have E:=Em.mk' h m
 simp -implicitDefEqProofs only [CL,List.contains_cons,List.contains_nil,Nat.reduceBEq,Bool.or_false,A8,AX,AZ,AU,A9,AJ,BA,AR,AC,AA,AY,FL,EW,BL,BG,BO,AB,BC,↓reduceIte,Nat.reduceEqDiff,Nat.add_zero,Option.getD_some,Bool.not_false,enP,GZ,DY,bxM,KN,ACA]
 generalize h ++ [ABlk.live 2 [DC m]] ++ [ABlk.live 4 [FV]] ++ [ABlk.live 1 [IZ]] ++ [ABlk.live 4 [FV]] ++ [ABlk.live 1 [IZ]]=H0 at E ⊢
 generalize (h ++ [ABlk.live 2 [DC m]] ++ [ABlk.live 4 [FV]] ++ [ABlk.live 1 [IZ]] ++ [ABlk.live 4 [FV]]).length=b5 at E ⊢
 generalize (h ++ [ABlk.live 2 [DC m]] ++ [ABlk.live 4 [FV]] ++ [ABlk.live 1 [IZ]]).length=b4 at E ⊢
 generalize (h ++ [ABlk.live 2 [DC m]] ++ [ABlk.live 4 [FV]]).length=b3 at E ⊢
 generalize (h ++ [ABlk.live 2 [DC m]]).length=b2 at E ⊢
 have o2:=E.o2; have o3:=E.o3; have o4:=E.o4; have o5:=E.o5
 have hlt0:=E.lt
 simp -implicitDefEqProofs only [CL,List.contains_cons,List.contains_nil,Nat.reduceBEq,Bool.or_false,BM,AZ,AU,A9,AJ,BA,AR,AC,AA,AY,AQ,BD,BB,C8,AB,↓reduceIte,Option.getD_some,Bool.not_false,enP,OZ,DY,E.m0,List.length_map]
 refine FO 0 (fun F H => ∃ v1 v3,F 1 = .ptr h.length 0 0∧F 2 = .ptr b2 0 0∧F 3 = .ptr b3 0 0∧F 4 = .ptr b4 0 0∧F 5 = .ptr b5 0 0∧Em h H m b2 b3 b4 b5 v1 (.sl .nil 0 []) v3∧outG 1 GG H0 (zPs m) v1 H∧outG 1 (fun _:Pt=>IZ) H0 m.pts v3 H∧(∀ b,isB v1 b→¬ isB v3 b)∧H0.length≤H.length) (fun _ _=>False) ?_ ?_ (fun _ _ hh=>hh.elim)
 ·refine CS (fun n F H => ∃ i v1 v3,n+i=m.pts.length∧F 1 = .ptr h.length 0 0∧F 2 = .ptr b2 0 0∧F 3 = .ptr b3 0 0∧F 4 = .ptr b4 0 0∧F 5 = .ptr b5 0 0∧F 11 = .sl m.pm 6 (m.pts.map G9)∧F 12 = .int .i64 m.pts.length∧F 13 = .int .i64 (i:Nat)∧Em h H m b2 b3 b4 b5 v1 (.sl .nil 0 []) v3∧outG 1 GG H0 ((zPs m).take i) v1 H∧outG 1 (fun _:Pt=>IZ) H0 (m.pts.take i) v3 H∧(∀ b,isB v1 b→¬ isB v3 b)∧H0.length≤H.length) m.pts.length
   ⟨0,_,_,by simp,by simp -implicitDefEqProofs only [AA,↓reduceIte,Nat.reduceEqDiff],by simp -implicitDefEqProofs only [AA,↓reduceIte,Nat.reduceEqDiff],by simp -implicitDefEqProofs only [AA,↓reduceIte,Nat.reduceEqDiff],by simp -implicitDefEqProofs only [AA,↓reduceIte,Nat.reduceEqDiff],by simp -implicitDefEqProofs only [AA,↓reduceIte,Nat.reduceEqDiff],by simp -implicitDefEqProofs only [AA,↓reduceIte,Nat.reduceEqDiff],by simp -implicitDefEqProofs only [AA,↓reduceIte,Nat.reduceEqDiff],by simp -implicitDefEqProofs only [AA,↓reduceIte]; rfl,E,by rw [List.take_zero]; exact outG.nil _ _ _ _,by rw [List.take_zero]; exact outG.nil _ _ _ _,fun b hb=>hb.elim,Nat.le_refl _⟩ ?_
  clear E
  rintro n F H ⟨i,v1,v3,hi,f1,f2,f3,f4,f5,f11,f12,f13,E,ho1,ho3,hdis,hle⟩
  simp -implicitDefEqProofs only [CL,List.contains_cons,List.contains_nil,Nat.reduceBEq,Bool.or_false,A8,AX,BF,AZ,AU,A9,AJ,BA,AR,AC,AA,AY,BN,AB,CO,↓reduceIte,Option.getD_some,Bool.not_false,enP,DY,f12,f13]
  refine CG (fun hc => ?_) (fun hc => ?_)
  ·have hi':i < m.pts.length:=by simpa using hc
   have h64:=(hg.full _ (List.getElem_mem hi')).2
   have hP:=AFE m i hi'
   simp -implicitDefEqProofs only [CL,List.contains_cons,List.contains_nil,Nat.reduceBEq,Bool.or_false,A8,BM,AX,BK,AZ,AU,A9,AJ,BA,AR,AC,EQ,AA,AY,FL,BL,EC,BU,BO,AB,DF,↓reduceIte,Nat.reduceEqDiff,Option.getD_some,Bool.not_false,enP,MV,DY,Option.getD_none,f11,f13,CW hi',ES AE9 X3 JJ hi',AT3,ARZ _ _ [.str ⟨#[]⟩,.int .i64 0,.int .i64 0,.str ⟨#[]⟩,.sl .nil 0 [],.sl .nil 0 []] rfl]
   have E1:=E.app [.live 6 [G9 m.pts[i]]]
   obtain ⟨v1',H2,hap,ho1',hk1,hl2,hn1,⟨o,l,rfl⟩,hx2⟩:=(ho1.app [.live 6 [G9 m.pts[i]]]).app2 AFN ABO AIK AH1 (by omega) (by rw [List.length_take,YC]; omega) (by simp; omega) (zIs m.pts[i].bins.length)
   rw [← hP] at ho1'
   have E2:=E1.keep hk1 (fun b hb=>by have:=ho1.lt hb; omega) (hx2 h (by omega))
   have E3:=E2.set4 (.own o 0 l) (.sl .nil 0 [])
   have ho3':=((ho3.app [.live 6 [G9 m.pts[i]]]).keepA hk1 (fun b hb h1=>hdis b h1 hb)).setB (b:=b4) (by omega) (.live 4 [KF (.own o 0 l) (.sl .nil 0 [])])
   have ho1'':=ho1'.setB (b:=b4) (by omega) (.live 4 [KF (.own o 0 l) (.sl .nil 0 [])])
   have hdis' : ∀ b,isB (.own o 0 l) b→¬ isB v3 b:=fun b hb h3=>by
    have h1:=hn1 b hb
    have h2:=ho3.lt h3
    simp at h1; omega
   refine EG (by kernel_rfl) ?_
   simp -implicitDefEqProofs only [FJ,E8,FI,CL,List.contains_cons,List.contains_nil,Nat.reduceBEq,Bool.or_false,DT,CZ,DV,I7,EN,NJ,DW,FX,AA,AY,EA,BL,I9,BG,C8,FT,BO,AB,↓reduceIte,Nat.reduceEqDiff,Nat.reduceAdd,Nat.add_zero,Nat.zero_add,Option.getD_some,enP,NA,PI,HZ,f4,E1.l4,CX NW,K3,List.length_map,mkF _ _ (show m.pts[i].bins.length≤1048576 by omega),ADK]
   refine FK (v := .own o 0 l) (h:=H2) hap ?_
   simp -implicitDefEqProofs only [FJ,CL,List.contains_cons,List.contains_nil,Nat.reduceBEq,Bool.or_false,DT,CZ,LD,EO,DV,K8,DW,AX,AZ,AU,AJ,BA,AR,AC,AA,AY,BL,EC,BG,AB,DF,↓reduceIte,Nat.reduceEqDiff,Nat.reduceAdd,Nat.add_zero,Nat.zero_add,Option.getD_some,Bool.not_false,enP,NA,AQA,DY,Option.getD_none,f4,f5,E2.s4]
   have hl3:(H2.set b4 (.live 4 [KF (.own o 0 l) (.sl .nil 0 [])])).length=H.length+2:=by rw [List.length_set,hl2,List.length_append]; rfl
   generalize H2.set b4 (.live 4 [KF (.own o 0 l) (.sl .nil 0 [])])=H3 at E3 ho3' ho1'' hl3 ⊢
   obtain ⟨v3',H4,hap3,ho3'',hk3,hl4,hn3,⟨o3',l3,rfl⟩,hx4⟩:=ho3'.app2 AFN ABO AIK AH1 (by omega) (by rw [List.length_take]; omega) (by omega) m.pts[i]
   rw [← List.take_succ_eq_append_getElem hi'] at ho3''
   have E4:=E3.keep hk3 (fun b hb=>by have:=ho3'.lt hb; omega) (hx4 h (by omega))
   have E5:=E4.set5 (.own o3' 0 l3)
   have ho1f:=(ho1''.keepA hk3 hdis').setB (b:=b5) (by omega) (.live 1 [[.own o3' 0 l3]])
   have ho3f:=ho3''.setB (b:=b5) (by omega) (.live 1 [[.own o3' 0 l3]])
   simp -implicitDefEqProofs only [E8,FI,CL,List.contains_cons,List.contains_nil,Nat.reduceBEq,Bool.or_false,AU,AJ,BA,AR,AC,AA,AY,AQ,EX,EA,FT,BO,AB,↓reduceIte,Nat.reduceEqDiff,Option.getD_some,Bool.not_false,enP,DY,E3.l5,AX9]
   refine FK (v := .own o3' 0 l3) (h:=H4) hap3 ?_
   simp -implicitDefEqProofs only [CL,List.contains_cons,List.contains_nil,Nat.reduceBEq,Bool.or_false,AX,AZ,DU,DZ,AU,A9,AJ,BA,AR,AC,EQ,AA,AY,AQ,BD,BB,EC,BN,BG,AB,DF,CR,↓reduceIte,Nat.reduceEqDiff,Nat.add_zero,Option.getD_some,Bool.not_false,enP,AQA,DY,Option.getD_none,f5,E4.s5,f13,CB (show i < 9223372036854775807 by omega)]
   refine ⟨n - 1,by omega,i+1,.own o 0 l,.own o3' 0 l3,by omega,f1,f2,f3,f4,trivial,f11,f12,rfl,E5,ho1f,ho3f,fun b hb h3 => ?_,?_⟩
   ·have h1:=hn1 b hb
    have h2:=hn3 b h3
    rw [List.length_append] at h1
    simp at h1; omega
   ·rw [List.length_set]; omega
  ·have hi' : ¬ i < m.pts.length:=by simpa using hc
   rw [List.take_of_length_le (by rw [YC]; omega)] at ho1
   rw [List.take_of_length_le (by omega)] at ho3
   simp -implicitDefEqProofs only [CU,DR,II,EF,AA,↓reduceIte,Nat.reduceEqDiff]
   exact ⟨v1,v3,f1,f2,f3,f4,f5,E,ho1,ho3,hdis,hle⟩
 ·rintro F H ⟨v1,v3,f1,f2,f3,f4,f5,E,ho1,ho3,hdis,hle⟩
  simp -implicitDefEqProofs only [CL,List.contains_cons,List.contains_nil,Nat.reduceBEq,Bool.or_false,A8,BM,AX,AZ,EB,AU,A9,AJ,BA,AR,AC,AA,AY,AQ,BD,BB,BL,BG,C8,AB,↓reduceIte,Nat.zero_add,Option.getD_some,Bool.not_false,enP,Q5,H7,DY,f1,E.m1,List.length_map]
  refine FO 2 (fun F H => ∃ v2,F 2 = .ptr b2 0 0∧F 3 = .ptr b3 0 0∧F 4 = .ptr b4 0 0∧F 5 = .ptr b5 0 0∧Em h H m b2 b3 b4 b5 v1 v2 v3∧outG 1 GG H0 (zPs m) v1 H∧outG 1 GG H0 (zCs m) v2 H∧outG 1 (fun _:Pt=>IZ) H0 m.pts v3 H) (fun _ _=>False) ?_ ?_ (fun _ _ hh=>hh.elim)
  ·refine CS (fun n F H => ∃ i v2,n+i=m.crs.length∧F 1 = .ptr h.length 0 0∧F 2 = .ptr b2 0 0∧F 3 = .ptr b3 0 0∧F 4 = .ptr b4 0 0∧F 5 = .ptr b5 0 0∧F 33 = .sl m.cm 3 (m.crs.map GH)∧F 34 = .int .i64 m.crs.length∧F 35 = .int .i64 (i:Nat)∧Em h H m b2 b3 b4 b5 v1 v2 v3∧outG 1 GG H0 (zPs m) v1 H∧outG 1 GG H0 ((zCs m).take i) v2 H∧outG 1 (fun _:Pt=>IZ) H0 m.pts v3 H∧(∀ b,isB v2 b→¬ isB v1 b∧¬ isB v3 b)∧H0.length≤H.length) m.crs.length
    ⟨0,_,by simp,by simp -implicitDefEqProofs only [AA,↓reduceIte,Nat.reduceEqDiff,f1],by simp -implicitDefEqProofs only [AA,↓reduceIte,Nat.reduceEqDiff,f2],by simp -implicitDefEqProofs only [AA,↓reduceIte,Nat.reduceEqDiff,f3],by simp -implicitDefEqProofs only [AA,↓reduceIte,Nat.reduceEqDiff,f4],by simp -implicitDefEqProofs only [AA,↓reduceIte,Nat.reduceEqDiff,f5],by simp -implicitDefEqProofs only [AA,↓reduceIte,Nat.reduceEqDiff],by simp -implicitDefEqProofs only [AA,↓reduceIte,Nat.reduceEqDiff],by simp -implicitDefEqProofs only [AA,↓reduceIte]; rfl,E,ho1,by rw [List.take_zero]; exact outG.nil _ _ _ _,ho3,fun b hb=>hb.elim,hle⟩ ?_
   clear f1 f2 f3 f4 f5 E ho1 ho3 hle
   rintro n F H ⟨i,v2,hi,f1,f2,f3,f4,f5,f33,f34,f35,E,ho1,ho2,ho3,hd2,hle⟩
   simp -implicitDefEqProofs only [CL,List.contains_cons,List.contains_nil,Nat.reduceBEq,Bool.or_false,A8,AX,BF,AZ,AU,A9,AJ,BA,AR,AC,AA,AY,BN,AB,CO,↓reduceIte,Option.getD_some,Bool.not_false,enP,DY,f34,f35]
   refine CG (fun hc => ?_) (fun hc => ?_)
   ·have hi':i < m.crs.length:=by simpa using hc
    have hcg:=hg.crs _ (List.getElem_mem hi')
    have hfs:=hg.full.szs hcg.here
    have hsl:=JE m m.crs[i].pts
    have hfour:=hcg.four
    have hpr:=hcg.prod
    have hC:=AFF m i hi'
    have E1:=E.app [.live 3 [GH m.crs[i]]]
    have gc1:=CQ H (.live 3 [GH m.crs[i]])
    obtain ⟨v2',H2,hap,ho2',hk2,hl2,hn2,⟨o,l,rfl⟩,hx2⟩:=(ho2.app [.live 3 [GH m.crs[i]]]).app2 AFN ABO AIK AH1 (by omega) (by rw [List.length_take,YD]; omega) (by simp; omega) (zIs (FM (szs m m.crs[i].pts)))
    rw [← hC] at ho2'
    have E2:=E1.keep hk2 (fun b hb=>by have:=ho2.lt hb; omega) (hx2 h (by omega))
    have E3:=E2.set4 v1 (.own o 0 l)
    have ho1':=((ho1.app [.live 3 [GH m.crs[i]]]).keepA hk2 (fun b hb h2=>(hd2 b h2).1 hb)).setB (b:=b4) (by omega) (.live 4 [KF v1 (.own o 0 l)])
    have ho3':=((ho3.app [.live 3 [GH m.crs[i]]]).keepA hk2 (fun b hb h2=>(hd2 b h2).2 hb)).setB (b:=b4) (by omega) (.live 4 [KF v1 (.own o 0 l)])
    have ho2'':=ho2'.setB (b:=b4) (by omega) (.live 4 [KF v1 (.own o 0 l)])
    simp -implicitDefEqProofs only [CL,List.contains_cons,List.contains_nil,Nat.reduceBEq,Bool.or_false,A8,BM,AX,BK,AZ,AU,A9,AJ,BA,AR,AC,EQ,AA,AY,FL,BL,EC,BU,BO,AB,DF,↓reduceIte,Nat.reduceEqDiff,Option.getD_some,Bool.not_false,enP,P7,DY,Option.getD_none,f33,f35,CW hi',ES ABC WE JR hi',AT2,ARY _ _ [.str ⟨#[]⟩,.sl .nil 0 [],.sl .nil 0 []] rfl]
    refine EG (by kernel_rfl) ?_
    simp -implicitDefEqProofs only [FJ,CL,List.contains_cons,List.contains_nil,Nat.reduceBEq,Bool.or_false,DT,CZ,DV,EN,NJ,DW,FP,FD,AA,AY,BS,BL,I9,BG,AB,List.map_cons,List.map_nil,List.append_nil,↓reduceIte,Nat.reduceEqDiff,Nat.reduceAdd,Nat.zero_add,Option.getD_some,enP,ME,f1,f4,E1.l4',ldM E1.gm,ldC gc1]
    refine ⟨_,UL G m _ _ hcg.here (by omega),?_⟩
    try simp -implicitDefEqProofs only []
    refine ⟨_,Q3 G _ _ _ (fun n hn=>(hfs n hn).2) (by omega),?_⟩
    try simp -implicitDefEqProofs only [FJ,E8,FI,CL,List.contains_cons,List.contains_nil,Nat.reduceBEq,Bool.or_false,Bool.or_true,DT,CZ,DV,I7,FX,AA,AY,EA,FT,BO,↓reduceIte,Nat.reduceEqDiff,Nat.reduceAdd,Option.getD_some,enP,mkF _ _ (show FM (szs m m.crs[i].pts)≤1048576 by omega),ADK]
    refine FK (v := .own o 0 l) (h:=H2) hap ?_
    simp -implicitDefEqProofs only [FJ,CL,List.contains_cons,List.contains_nil,Nat.reduceBEq,Bool.or_false,DT,CZ,LD,EO,DV,K8,DW,AX,AZ,DU,DZ,AU,A9,AJ,BA,AR,AC,AA,AY,AQ,BD,BB,EC,BN,BG,AB,DF,CR,↓reduceIte,Nat.reduceEqDiff,Nat.reduceAdd,Nat.zero_add,Option.getD_some,Bool.not_false,enP,ME,DY,Option.getD_none,f4,E2.s4',f35,CB (show i < 9223372036854775807 by omega)]
    refine ⟨n - 1,by omega,i+1,.own o 0 l,by omega,f1,f2,f3,trivial,f5,f33,f34,rfl,E3,ho1',ho2'',ho3',fun b hb=>⟨fun h1 => ?_,fun h3 => ?_⟩,?_⟩
    ·have h0:=hn2 b hb
     have h2:=ho1.lt h1
     rw [List.length_append] at h0
     simp at h0; omega
    ·have h0:=hn2 b hb
     have h2:=ho3.lt h3
     rw [List.length_append] at h0
     simp at h0; omega
    ·rw [List.length_set,hl2,List.length_append]; simp; omega
   ·have hi' : ¬ i < m.crs.length:=by simpa using hc
    rw [List.take_of_length_le (by rw [YD]; omega)] at ho2
    simp -implicitDefEqProofs only [CU,DR,II,EF,AA,↓reduceIte,Nat.reduceEqDiff]
    exact ⟨v2,f2,f3,f4,f5,E,ho1,ho2,ho3⟩
  ·rintro F' H' ⟨v2,g2,g3,g4,g5,E',q1,q2,q3⟩
   simp -implicitDefEqProofs only [A8,AZ,EB,↓reduceIte]
   have p2:=E'.o2; have p3:=E'.o3; have p4:=E'.o4; have p5:=E'.o5
   refine WY [(5,2)] (by kernel_rfl) ?_ ?_
   ·simp -implicitDefEqProofs only [g2,g5,XD,ABJ,ZH,and_true]
    omega
   simp -implicitDefEqProofs only [FJ,CL,List.contains_cons,List.contains_nil,Nat.reduceBEq,Bool.or_false,DT,CZ,LD,EO,DV,EN,K8,BJ,AZ,AA,AY,BL,EC,AB,DF,↓reduceIte,Nat.reduceEqDiff,Nat.reduceAdd,Nat.zero_add,Option.getD_some,enP,Option.getD_none,g2,g3,g4,g5,LB E'.g4 rfl,VG E'.g5 rfl,AUL E'.g2 rfl q1.leaf q2.leaf,AUK (EP E'.g3 (show b3≠b2 by omega)) rfl q3.leaf]
   rw [AWH (ba:=b2) (bb:=b3) (by simp -implicitDefEqProofs only [AA,↓reduceIte,Nat.reduceEqDiff,g2]) (by simp -implicitDefEqProofs only [AA,↓reduceIte,Nat.reduceEqDiff,g3]) (LB (EP (EI E'.g2) (show b2≠b3 by omega)) rfl) (VG (EI (EP E'.g3 (show b3≠b2 by omega))) rfl)]
   have hs1 : ∀ {α:Type} {f:α→List AV} {ys:List α} {v:AV},outG 1 f H0 ys v H'→outG 1 f h ys v ((H'.set b2 (.live 4 [KF v1 v2])).set b3 (.live 1 [[v3]])):=fun q=>((q.setB (b:=b2) (by omega) _).setB (b:=b3) (by omega) _).base (by omega)
   exact ⟨(E'.hx.set (by omega) _).set (by omega) _,v1,v2,v3,rfl,hs1 q1,hs1 q2,hs1 q3⟩
end Go.Proofs.YtocilianjfhifaaGreatDoor.Cov
/- The coverage without samples: the reference; no condition but the bounds on lengths. -/
set_option linter.unusedSimpArgs false
set_option maxRecDepth 8000
namespace Go.Proofs.YtocilianjfhifaaGreatDoor.Cov
open Go Go.Proofs Go.Proofs.YtocilianjfhifaaGreatDoor.Sm Go.Proofs.YtocilianjfhifaaGreatDoor.Bins Go.RowKit

structure Er (h H:Hp) (m:Mo) (b2 b3:Nat) (v1 v2:AV):Prop where
 gm:H[h.length]? = some (.live 2 [DC m])
 g2:H[b2]? = some (.live 4 [FV])
 g3:H[b3]? = some (.live 4 [KF v1 v2])
 o2:h.length < b2
 o3:b2 < b3
 hx:ext h H
section
variable {h H:Hp} {m:Mo} {b2 b3:Nat} {v1 v2:AV} (E:Er h H m b2 b3 v1 v2)
include E
theorem Er.m0:D7 Tryz.prog H 22 (.ptr h.length 0 0)=some (.sl m.pm 6 (m.pts.map G9)):=by rw [DX TW E.gm (row:=DC m) rfl,O7]
theorem Er.m1:D7 Tryz.prog H 23 (.ptr h.length 0 1)=some (.sl m.cm 3 (m.crs.map GH)):=by rw [DX XA E.gm (row:=DC m) rfl,RO]
theorem Er.l3:D7 Tryz.prog H 26 (.ptr b3 0 0)=some v1:=by rw [DX QR E.g3 (row:=KF v1 v2) rfl]; rfl
theorem Er.l3':D7 Tryz.prog H 26 (.ptr b3 0 1)=some v2:=by rw [DX QR E.g3 (row:=KF v1 v2) rfl]; rfl
theorem Er.keep {H':Hp} {u:AV} (hk : ∀ b x,H[b]? = some x→¬ isB u b→H'[b]? = some x) (hu : ∀ b,isB u b→b3 < b) (hx:ext h H→ext h H'):Er h H' m b2 b3 v1 v2:=by
 have o2:=E.o2; have o3:=E.o3
 exact ⟨hk _ _ E.gm (fun e=>by have:=hu _ e; omega),hk _ _ E.g2 (fun e=>by have:=hu _ e; omega),hk _ _ E.g3 (fun e=>by have:=hu _ e; omega),o2,o3,hx E.hx⟩
theorem Er.set3 (w1 w2:AV):Er h (H.set b3 (.live 4 [KF w1 w2])) m b2 b3 w1 w2:=by
 have o2:=E.o2; have o3:=E.o3
 exact ⟨EP E.gm (by omega),EP E.g2 (by omega),EI E.g3,o2,o3,E.hx.set (by omega) _⟩
theorem Er.s3 {o l:Nat}:FQ Tryz.prog H 26 (.ptr b3 0 0) (.own o 0 l)=some (H.set b3 (.live 4 [KF (.own o 0 l) v2])):=NL (row:=KF v1 v2) (ABG _ _ _) AOV E.g3 (by simp [KF])
theorem Er.s3' {o l:Nat}:FQ Tryz.prog H 26 (.ptr b3 0 1) (.own o 0 l)=some (H.set b3 (.live 4 [KF v1 (.own o 0 l)])):=NL (row:=KF v1 v2) (ABG _ _ _) AOV E.g3 (by simp [KF])
theorem Er.lt:b3 < H.length:=CE E.g3
end
theorem Er.mk' (h:Hp) (m:Mo):Er h (h ++ [ABlk.live 2 [DC m]] ++ [ABlk.live 4 [FV]] ++ [ABlk.live 4 [FV]]) m (h ++ [ABlk.live 2 [DC m]]).length (h ++ [ABlk.live 2 [DC m]] ++ [ABlk.live 4 [FV]]).length (.sl .nil 0 []) (.sl .nil 0 []) :=
 ⟨C9 (C9 (CQ _ _)),C9 (CQ _ _),CQ _ _,by simp,by simp,(((ext.rfl' h).app _).app _).app _⟩
theorem AVM (h:Hp):FQ Tryz.prog (h ++ [.live 4 [FV]]) 28 (.ptr h.length 0 0) (.agg FV)=some (h ++ [.live 4 [FV]]):=by rw [stZ (CQ _ _) rfl,PN]
/-- what an empty coverage is frozen to -/
theorem AHO {E:Env} {f:FuncId} {args:List AV} {h:Hp} {m:Mo} (hc:ACalls E f args h fun v H=>ext h H∧∃ v1 v2,v = .agg (KF v1 v2)∧outG 1 GG h (zPs m) v1 H∧outG 1 GG h (zCs m) v2 H) :
  PCall E f args h (.agg (D5 (JG m))):=by
 have hp:PCall E f args h (.agg (KF (fzG 1 GG (zPs m)) (fzG 1 GG (zCs m)))):=by
  refine ACalls.pure 3 hc ?_
  rintro v H ⟨he,v1,v2,rfl,o1,o2⟩
  refine ⟨he,?_⟩
  have e1:=O4 ANH o1 h.length 0 (Nat.le_refl _)
  have e2:=O4 ANH o2 h.length 0 (Nat.le_refl _)
  show AV.agg [IM h.length H 2 v1,IM h.length H 2 v2,.int .i64 0,.int .i64 0]=_
  rw [e1,e2]; rfl
 exact hp.res (CvR.agg (CvRL.cons UW (CvRL.cons UW (CvRL.refl _))))
set_option maxHeartbeats 2000000 in
theorem ANQ (G:Nat→AV) (m:Mo) (hm:MoOk m) (hg:Good m) (h:Hp):PCall (En G) 92 [.agg (DC m)] h (.agg (D5 (JG m))):=by
 refine AHO ?_
 have hm1:=hm.np
 have hm2:=hm.nc
 have hnum:=hg.num
 refine BX (H:=hint [25,45] []) (enM G) Tryz.func92 rfl (by kernel_rfl) (by kernel_rfl) (Nat.le_of_ble_eq_true (by kernel_rfl)) ?_
 show awp _ _ _ _ _ (EJ _ [.cell 2 28] _)
 have E:=Er.mk' h m
 simp -implicitDefEqProofs only [E8,CL,List.contains_cons,List.contains_nil,Nat.reduceBEq,Bool.or_false,A8,BM,AX,AZ,AU,A9,AJ,BA,AR,AC,EQ,AA,AY,AQ,BD,A7,FL,EW,IR,EC,BO,AB,DF,BC,↓reduceIte,Nat.reduceEqDiff,Option.getD_some,Bool.not_false,enP,DY,Option.getD_none,bxM,KN,UH,AVM]
 generalize h ++ [ABlk.live 2 [DC m]] ++ [ABlk.live 4 [FV]] ++ [ABlk.live 4 [FV]]=H0 at E ⊢
 generalize (h ++ [ABlk.live 2 [DC m]] ++ [ABlk.live 4 [FV]]).length=b3 at E ⊢
 generalize (h ++ [ABlk.live 2 [DC m]]).length=b2 at E ⊢
 have o2:=E.o2; have o3:=E.o3
 have hlt0:=E.lt
 refine FO 0 (fun F H => ∃ v1,F 1 = .ptr h.length 0 0∧F 2 = .ptr b2 0 0∧F 3 = .ptr b3 0 0∧Er h H m b2 b3 v1 (.sl .nil 0 [])∧outG 1 GG H0 (zPs m) v1 H∧H0.length≤H.length) (fun _ _=>False) ?_ ?_ (fun _ _ hh=>hh.elim)
 ·refine CS (fun n F H => ∃ i v1,n+i=m.pts.length∧F 1 = .ptr h.length 0 0∧F 2 = .ptr b2 0 0∧F 3 = .ptr b3 0 0∧F 4 = .int .i64 (i:Nat)∧Er h H m b2 b3 v1 (.sl .nil 0 [])∧outG 1 GG H0 ((zPs m).take i) v1 H∧H0.length≤H.length) m.pts.length
   ⟨0,_,by simp,by simp -implicitDefEqProofs only [AA,↓reduceIte,Nat.reduceEqDiff],by simp -implicitDefEqProofs only [AA,↓reduceIte,Nat.reduceEqDiff],by simp -implicitDefEqProofs only [AA,↓reduceIte,Nat.reduceEqDiff],by simp -implicitDefEqProofs only [AA,↓reduceIte]; rfl,E,by rw [List.take_zero]; exact outG.nil _ _ _ _,Nat.le_refl _⟩ ?_
  clear E
  rintro n F H ⟨i,v1,hi,f1,f2,f3,f4,E,ho1,hle⟩
  simp -implicitDefEqProofs only [CL,List.contains_cons,List.contains_nil,Nat.reduceBEq,Bool.or_false,A8,AX,BF,AZ,AU,A9,AJ,BA,AR,AC,AA,AY,BB,BL,BN,BG,C8,AB,CO,↓reduceIte,Nat.reduceEqDiff,Nat.add_zero,Option.getD_some,Bool.not_false,enP,OZ,GZ,DY,f1,f4,E.m0,List.length_map]
  refine CG (fun hc => ?_) (fun hc => ?_)
  ·have hi':i < m.pts.length:=by simpa using hc
   have h64:=(hg.full _ (List.getElem_mem hi')).2
   have hP:=AFE m i hi'
   have hH:=E.lt
   obtain ⟨v1',H2,hap,ho1',hk1,hl2,hn1,⟨o,l,rfl⟩,hx2⟩:=ho1.app2 AFN ABO AIK AH1 (by omega) (by rw [List.length_take,YC]; omega) hle (zIs m.pts[i].bins.length)
   rw [← hP] at ho1'
   have E2:=E.keep hk1 (fun b hb=>by have:=ho1.lt hb; omega) (hx2 h (by omega))
   have E3:=E2.set3 (.own o 0 l) (.sl .nil 0 [])
   have ho1'':=ho1'.setB (b:=b3) (by omega) (.live 4 [KF (.own o 0 l) (.sl .nil 0 [])])
   simp -implicitDefEqProofs only [A8,BM,BK,AZ]
   refine EG (by kernel_rfl) ?_
   simp -implicitDefEqProofs only [FJ,E8,FI,CL,List.contains_cons,List.contains_nil,Nat.reduceBEq,Bool.or_false,DT,CZ,DV,ET,I7,EN,NJ,DW,DN,FX,AA,AY,EA,BL,I9,BG,BU,C8,FT,BO,AB,↓reduceIte,Nat.reduceEqDiff,Nat.reduceAdd,Nat.add_zero,Nat.zero_add,Option.getD_some,enP,MV,GZ,NA,PI,HZ,f1,f3,f4,E.l3,E.m0,CW hi',CP NW hi',K3,List.length_map,mkF _ _ (show m.pts[i].bins.length≤1048576 by omega),ADK]
   refine FK (v := .own o 0 l) (h:=H2) hap ?_
   simp -implicitDefEqProofs only [FJ,CL,List.contains_cons,List.contains_nil,Nat.reduceBEq,Bool.or_false,DT,CZ,LD,EO,DV,K8,DW,AX,AZ,DU,DZ,AU,A9,AJ,BA,AR,AC,AA,AY,AQ,BD,BB,A7,EC,BN,BG,AB,DF,CR,↓reduceIte,Nat.reduceEqDiff,Nat.reduceAdd,Nat.add_zero,Nat.zero_add,Option.getD_some,Bool.not_false,enP,NA,DY,Option.getD_none,f3,E2.s3,f4,CB (show i < 9223372036854775807 by omega)]
   exact ⟨n - 1,by omega,i+1,.own o 0 l,by omega,f1,f2,trivial,rfl,E3,ho1'',by rw [List.length_set]; omega⟩
  ·have hi' : ¬ i < m.pts.length:=by simpa using hc
   rw [List.take_of_length_le (by rw [YC]; omega)] at ho1
   simp -implicitDefEqProofs only [CU,DR,II,EF,AA,↓reduceIte,Nat.reduceEqDiff]
   exact ⟨v1,f1,f2,f3,E,ho1,hle⟩
 ·rintro F H ⟨v1,f1,f2,f3,E,ho1,hle⟩
  simp -implicitDefEqProofs only [CL,List.contains_cons,List.contains_nil,Nat.reduceBEq,Bool.or_false,A8,BM,AX,AZ,EB,AU,A9,AJ,BA,AR,AC,AQ,BD,A7,↓reduceIte,Option.getD_some,Bool.not_false,DY]
  refine FO 2 (fun F H => ∃ v2,F 2 = .ptr b2 0 0∧F 3 = .ptr b3 0 0∧Er h H m b2 b3 v1 v2∧outG 1 GG H0 (zPs m) v1 H∧outG 1 GG H0 (zCs m) v2 H) (fun _ _=>False) ?_ ?_ (fun _ _ hh=>hh.elim)
  ·refine CS (fun n F H => ∃ i v2,n+i=m.crs.length∧F 1 = .ptr h.length 0 0∧F 2 = .ptr b2 0 0∧F 3 = .ptr b3 0 0∧F 5 = .int .i64 (i:Nat)∧Er h H m b2 b3 v1 v2∧outG 1 GG H0 (zPs m) v1 H∧outG 1 GG H0 ((zCs m).take i) v2 H∧(∀ b,isB v2 b→¬ isB v1 b)∧H0.length≤H.length) m.crs.length
    ⟨0,_,by simp,by simp -implicitDefEqProofs only [AA,↓reduceIte,Nat.reduceEqDiff,f1],by simp -implicitDefEqProofs only [AA,↓reduceIte,Nat.reduceEqDiff,f2],by simp -implicitDefEqProofs only [AA,↓reduceIte,Nat.reduceEqDiff,f3],by simp -implicitDefEqProofs only [AA,↓reduceIte]; rfl,E,ho1,by rw [List.take_zero]; exact outG.nil _ _ _ _,fun b hb=>hb.elim,hle⟩ ?_
   clear f1 f2 f3 E ho1 hle
   rintro n F H ⟨i,v2,hi,f1,f2,f3,f5,E,ho1,ho2,hd2,hle⟩
   simp -implicitDefEqProofs only [CL,List.contains_cons,List.contains_nil,Nat.reduceBEq,Bool.or_false,A8,AX,BF,AZ,AU,A9,AJ,BA,AR,AC,AA,AY,BB,BL,BN,BG,C8,AB,CO,↓reduceIte,Nat.reduceEqDiff,Nat.zero_add,Option.getD_some,Bool.not_false,enP,Q5,H7,DY,f1,f5,E.m1,List.length_map]
   refine CG (fun hc => ?_) (fun hc => ?_)
   ·have hi':i < m.crs.length:=by simpa using hc
    have hcg:=hg.crs _ (List.getElem_mem hi')
    have hpr:=hcg.prod
    have hfour:=hcg.four
    have hmin:min ((FM (szs m m.crs[i].pts):Nat):Int) 1000=((FM (szs m m.crs[i].pts):Nat):Int):=by omega
    have hcall:=WU G m m.crs[i] H hcg.here hg.full (by omega)
    rw [hmin] at hcall
    have hC:=AFF m i hi'
    have hH:=E.lt
    obtain ⟨v2',H2,hap,ho2',hk2,hl2,hn2,⟨o,l,rfl⟩,hx2⟩:=ho2.app2 AFN ABO AIK AH1 (by omega) (by rw [List.length_take,YD]; omega) hle (zIs (FM (szs m m.crs[i].pts)))
    rw [← hC] at ho2'
    have E2:=E.keep hk2 (fun b hb=>by have:=ho2.lt hb; omega) (hx2 h (by omega))
    have E3:=E2.set3 v1 (.own o 0 l)
    have ho1':=(ho1.keepA hk2 (fun b hb h2=>hd2 b h2 hb)).setB (b:=b3) (by omega) (.live 4 [KF v1 (.own o 0 l)])
    have ho2'':=ho2'.setB (b:=b3) (by omega) (.live 4 [KF v1 (.own o 0 l)])
    simp -implicitDefEqProofs only [A8,BM,BK,AZ]
    refine EG (by kernel_rfl) ?_
    simp -implicitDefEqProofs only [FJ,CL,List.contains_cons,List.contains_nil,Nat.reduceBEq,Bool.or_false,DT,CZ,DV,ET,EN,NJ,DW,DN,FP,FD,AA,AY,BS,BL,I9,BG,BU,AB,List.map_cons,List.map_nil,List.append_nil,↓reduceIte,Nat.reduceEqDiff,Nat.reduceAdd,Nat.zero_add,Option.getD_some,enP,P7,H7,ME,f1,f3,f5,E.l3',E.m1,ldM E.gm,CW hi',ES ABC WE JR hi']
    refine ⟨_,hcall,?_⟩
    try simp -implicitDefEqProofs only [FJ,E8,FI,CL,List.contains_cons,List.contains_nil,Nat.reduceBEq,Bool.or_false,Bool.or_true,DT,CZ,DV,I7,FX,AA,AY,EA,FT,BO,↓reduceIte,Nat.reduceEqDiff,Nat.reduceAdd,Option.getD_some,enP,mkF _ _ (show FM (szs m m.crs[i].pts)≤1048576 by omega),ADK]
    refine FK (v := .own o 0 l) (h:=H2) hap ?_
    simp -implicitDefEqProofs only [FJ,CL,List.contains_cons,List.contains_nil,Nat.reduceBEq,Bool.or_false,DT,CZ,LD,EO,DV,K8,DW,AX,AZ,DU,DZ,AU,A9,AJ,BA,AR,AC,AA,AY,AQ,BD,BB,A7,EC,BN,BG,AB,DF,CR,↓reduceIte,Nat.reduceEqDiff,Nat.reduceAdd,Nat.zero_add,Option.getD_some,Bool.not_false,enP,ME,DY,Option.getD_none,f3,E2.s3',f5,CB (show i < 9223372036854775807 by omega)]
    refine ⟨n - 1,by omega,i+1,.own o 0 l,by omega,f1,f2,trivial,rfl,E3,ho1',ho2'',fun b hb h1 => ?_,by rw [List.length_set]; omega⟩
    have h0:=hn2 b hb
    have h2:=ho1.lt h1
    omega
   ·have hi' : ¬ i < m.crs.length:=by simpa using hc
    rw [List.take_of_length_le (by rw [YD]; omega)] at ho2
    simp -implicitDefEqProofs only [CU,DR,II,EF,AA,↓reduceIte,Nat.reduceEqDiff]
    exact ⟨v2,f2,f3,E,ho1,ho2⟩
  ·rintro F' H' ⟨v2,g2,g3,E',q1,q2⟩
   have hp:=E'.o2; have hq:=E'.o3
   simp -implicitDefEqProofs only [CL,List.contains_cons,List.contains_nil,Nat.reduceBEq,Bool.or_false,A8,AX,BJ,AZ,EB,AU,A9,AJ,BA,AR,AC,EQ,AA,AY,BL,EC,AB,DF,↓reduceIte,Nat.reduceEqDiff,Option.getD_some,Bool.not_false,enP,DY,Option.getD_none,g2,g3,LB E'.g3 rfl,AUL E'.g2 rfl q1.leaf q2.leaf]
   rw [AAV (b:=b2) (by simp -implicitDefEqProofs only [AA,↓reduceIte,Nat.reduceEqDiff,g2]) (LB (EI E'.g2) rfl)]
   have hs1 : ∀ {α:Type} {f:α→List AV} {ys:List α} {v:AV},outG 1 f H0 ys v H'→outG 1 f h ys v (H'.set b2 (.live 4 [KF v1 v2])):=fun q=>(q.setB (b:=b2) (by omega) _).base (by omega)
   exact ⟨E'.hx.set (by omega) _,v1,v2,rfl,hs1 q1,hs1 q2⟩
end Go.Proofs.YtocilianjfhifaaGreatDoor.Cov
/- Empty of both sides; no condition but the variables that are laid and the bounds on lengths. -/
set_option linter.unusedSimpArgs false
set_option maxRecDepth 8000
namespace Go.Proofs.YtocilianjfhifaaGreatDoor.Cov
open Go Go.Proofs Go.Proofs.YtocilianjfhifaaGreatDoor.Sm Go.Proofs.YtocilianjfhifaaGreatDoor.Bins Go.RowKit

theorem LU {E:Env} {f:FuncId} {args:List AV} {h:Hp} {r:AV} (d:Nat) (hr : ∀ n H,IM n H d r=r) (hc:ACalls E f args h fun v H=>v=r∧ext h H):PCall E f args h r :=
 ACalls.pure d hc fun v H ⟨e,he⟩=>⟨he,by rw [e]; exact hr _ _⟩
def emV (m:Mo):Cvr:=if FH m=0 then JG m else zV
def emT (m:Mo):Tk:=if FH m=0 then ⟨nm (zLs m),zLs m⟩ else zT
def AQL (m:Mo):Tk:=if FH m=0 then ⟨.full,zLs m⟩ else zT
structure Ee (h H:Hp) (m:Mo) (b2 b3:Nat):Prop where
 gm:H[h.length]? = some (ABlk.live 2 [DC m])
 g2:H[b2]? = some (ABlk.live 4 [FV])
 g3:H[b3]? = some (ABlk.live 1 [IZ])
 o2:h.length < b2
 o3:b2 < b3
 hx:ext h H
theorem Ee.mk' (h:Hp) (m:Mo):Ee h (h ++ [ABlk.live 2 [DC m]] ++ [ABlk.live 4 [FV]] ++ [ABlk.live 1 [IZ]]) m (h ++ [ABlk.live 2 [DC m]]).length (h ++ [ABlk.live 2 [DC m]] ++ [ABlk.live 4 [FV]]).length :=
 ⟨C9 (C9 (CQ _ _)),C9 (CQ _ _),CQ _ _,by simp,by simp,(((ext.rfl' h).app _).app _).app _⟩
theorem Ee.lt {h H:Hp} {m:Mo} {b2 b3:Nat} (E:Ee h H m b2 b3):b3 < H.length:=CE E.g3
theorem Ee.m0 {h H:Hp} {m:Mo} {b2 b3:Nat} (E:Ee h H m b2 b3):D7 Tryz.prog H 22 (.ptr h.length 0 0)=some (.sl m.pm 6 (m.pts.map G9)):=by rw [DX TW E.gm (row:=DC m) rfl,O7]
/-- what is laid of an Empty's results, above what was -/
theorem AS2 (H0:Hp) (c:Cvr) (t:Tk) :
  FQ Tryz.prog (H0 ++ [ABlk.live 4 [FV]] ++ [ABlk.live 1 [IZ]]) 28 (.ptr H0.length 0 0) (.agg (D5 c))=some ((H0 ++ [ABlk.live 4 [FV]] ++ [ABlk.live 1 [IZ]]).set H0.length (ABlk.live 4 [D5 c])) ∧
  FQ Tryz.prog ((H0 ++ [ABlk.live 4 [FV]] ++ [ABlk.live 1 [IZ]]).set H0.length (ABlk.live 4 [D5 c])) 47 (.ptr (H0 ++ [ABlk.live 4 [FV]]).length 0 0) (.agg (MW t))=some (((H0 ++ [ABlk.live 4 [FV]] ++ [ABlk.live 1 [IZ]]).set H0.length (ABlk.live 4 [D5 c])).set (H0 ++ [ABlk.live 4 [FV]]).length (ABlk.live 1 [MW t])) ∧
  (((H0 ++ [ABlk.live 4 [FV]] ++ [ABlk.live 1 [IZ]]).set H0.length (ABlk.live 4 [D5 c])).set (H0 ++ [ABlk.live 4 [FV]]).length (ABlk.live 1 [MW t]))[H0.length]? = some (ABlk.live 4 [D5 c]) ∧
  (((H0 ++ [ABlk.live 4 [FV]] ++ [ABlk.live 1 [IZ]]).set H0.length (ABlk.live 4 [D5 c])).set (H0 ++ [ABlk.live 4 [FV]]).length (ABlk.live 1 [MW t]))[(H0 ++ [ABlk.live 4 [FV]]).length]? = some (ABlk.live 1 [MW t]) ∧
  ext H0 (((H0 ++ [ABlk.live 4 [FV]] ++ [ABlk.live 1 [IZ]]).set H0.length (ABlk.live 4 [D5 c])).set (H0 ++ [ABlk.live 4 [FV]]).length (ABlk.live 1 [MW t])) :=
 ⟨stV (C9 (CQ _ _)) rfl,stT (EP (CQ _ _) (by simp)) rfl,EP (EI (C9 (CQ _ _))) (by simp),EI (EP (CQ _ _) (by simp)),((((ext.rfl' H0).app _).app _).set (Nat.le_refl _) _).set (by simp) _⟩
theorem GN {h H:Hp} {b:Nat} {x:ABlk} (he:ext h H) (hb:h[b]? = some x):H[b]? = some x:=by
 obtain ⟨y,rfl⟩:=he
 exact H6 hb
theorem AQD (e:Int):CvR (.tup [.agg FV,.agg IZ,.int .i64 e]) (.tup [.agg (D5 zV),.agg (MW zT),.int .i64 e]):=CvR.tup (CvRL.cons AON (CvRL.cons AW9 (CvRL.refl _)))
set_option maxHeartbeats 1000000 in
theorem U5 (G:Nat→AV) (hG:GOk G) (m:Mo) (hm:MoOk m) (h:Hp):PCall (En G) 67 [.agg (DC m)] h (.tup [.agg (D5 (emV m)),.agg (MW (emT m)),.int .i64 (FH m)]):=by
 by_cases h0:FH m=0
 ·have hb:(FH m == 0)=true:=by simpa using h0
  unfold emV emT
  rw [if_pos h0,if_pos h0]
  have hg:=JF h0
  refine LU 3 (fun n H=>rfl) ?_
  refine BX (H:=Hint.none) (enM G) Tryz.func67 rfl (by kernel_rfl) (by kernel_rfl) (Nat.le_of_ble_eq_true (by kernel_rfl)) ?_
  show awp _ _ _ _ _ (EJ _ [.cell 2 28,.cell 3 47,.tmp 4] _)
  have E:=Ee.mk' h m
  simp -implicitDefEqProofs only [A8,AX,AZ,AU,A9,AL,AO,AJ,BA,AR,AC,AA,AY,AQ,BD,A7,FL,EW,BL,BO,BC,↓reduceIte,Nat.reduceEqDiff,Option.getD_some,Bool.not_false,enP,bxM,KN,ACA]
  generalize h ++ [ABlk.live 2 [DC m]] ++ [ABlk.live 4 [FV]] ++ [ABlk.live 1 [IZ]]=H0 at E ⊢
  generalize (h ++ [ABlk.live 2 [DC m]] ++ [ABlk.live 4 [FV]]).length=b3 at E ⊢
  generalize (h ++ [ABlk.live 2 [DC m]]).length=b2 at E ⊢
  have o2:=E.o2; have o3:=E.o3; have hlt:=E.lt
  simp -implicitDefEqProofs only [AU,AL,AO,AJ,BA,AR,AC,AA,AY,BS,BV,BR,AB,List.map_cons,List.map_nil,List.append_nil,↓reduceIte,Option.getD_some,Bool.not_false,ldM E.gm]
  refine (UQ G hG m hm _).use ?_
  simp -implicitDefEqProofs only [A8,AX,BK,BF,AZ,DL,AU,A9,AL,AO,AJ,BA,AR,AC,AA,AY,AQ,BS,BD,BB,A7,BL,BN,BV,BR,AB,ED,List.map_cons,List.map_nil,List.append_nil,↓reduceIte,Nat.reduceEqDiff,Option.getD_some,Bool.not_true,Bool.not_false,enP,bne,hb,ldM E.gm]
  refine (AJP G m hm hg _).use ?_
  obtain ⟨s1,s2,g6,g7,hx5⟩:=AS2 H0 (JG m) ⟨nm (zLs m),zLs m⟩
  have g2:=GN hx5 E.g2
  have g3:=GN hx5 E.g3
  have hx:=E.hx.trans hx5
  have h7:b2 < (H0 ++ [ABlk.live 4 [FV]]).length:=by simp; omega
  simp -implicitDefEqProofs only [List.getElem?_cons_zero,List.getElem?_cons_succ,A8,AZ,AU,A9,AL,AO,AJ,BA,AR,AC,EQ,AA,AY,BB,FL,EC,D8,FB,BO,AB,DF,↓reduceIte,Nat.reduceEqDiff,Option.getD_some,Bool.not_false,enP,Option.getD_none,KN,ACA,s1,s2]
  generalize ((H0 ++ [ABlk.live 4 [FV]] ++ [ABlk.live 1 [IZ]]).set H0.length (ABlk.live 4 [D5 (JG m)])).set (H0 ++ [ABlk.live 4 [FV]]).length (ABlk.live 1 [MW ⟨nm (zLs m),zLs m⟩])=H5 at g6 g7 g2 g3 hx ⊢
  generalize (H0 ++ [ABlk.live 4 [FV]]).length=b7 at g7 h7 ⊢
  refine WY [(7,2)] (by kernel_rfl) ?_ ?_
  ·simp -implicitDefEqProofs only [AA,↓reduceIte,Nat.reduceEqDiff,XD,ABJ,ZH,and_true]
   omega
  simp -implicitDefEqProofs only [FJ,DT,CZ,LD,EO,DV,GM,EN,K8,BJ,AZ,AL,AA,AY,AQ,BD,BL,EC,AB,DF,↓reduceIte,Nat.reduceEqDiff,Nat.reduceAdd,Nat.zero_add,Option.getD_some,enP,Option.getD_none,ldV g6,ldT g7,stV g2 rfl,stT (EP g3 (show b3≠b2 by omega)) rfl]
  rw [YZ (ba:=b2) (bb:=b3) (by simp -implicitDefEqProofs only [AA,↓reduceIte,Nat.reduceEqDiff]) (by simp -implicitDefEqProofs only [AA,↓reduceIte,Nat.reduceEqDiff]) (ldV (EP (EI g2) (show b2≠b3 by omega))) (ldT (EI (EP g3 (show b3≠b2 by omega))))]
  exact ⟨by simp -implicitDefEqProofs only [AA,↓reduceIte,h0],(hx.set (by omega) _).set (by omega) _⟩
 ·have hb:(FH m == 0)=false:=by simpa using h0
  unfold emV emT
  rw [if_neg h0,if_neg h0]
  refine PCall.res ?_ (AQD _)
  refine LU 3 (fun n H=>rfl) ?_
  refine BX (H:=Hint.none) (enM G) Tryz.func67 rfl (by kernel_rfl) (by kernel_rfl) (Nat.le_of_ble_eq_true (by kernel_rfl)) ?_
  show awp _ _ _ _ _ (EJ _ [.cell 2 28,.cell 3 47,.tmp 4] _)
  have E:=Ee.mk' h m
  simp -implicitDefEqProofs only [A8,AX,AZ,AU,A9,AL,AO,AJ,BA,AR,AC,AA,AY,AQ,BD,A7,FL,EW,BL,BO,BC,↓reduceIte,Nat.reduceEqDiff,Option.getD_some,Bool.not_false,enP,bxM,KN,ACA]
  generalize h ++ [ABlk.live 2 [DC m]] ++ [ABlk.live 4 [FV]] ++ [ABlk.live 1 [IZ]]=H0 at E ⊢
  generalize (h ++ [ABlk.live 2 [DC m]] ++ [ABlk.live 4 [FV]]).length=b3 at E ⊢
  generalize (h ++ [ABlk.live 2 [DC m]]).length=b2 at E ⊢
  have o2:=E.o2; have o3:=E.o3; have hlt:=E.lt
  simp -implicitDefEqProofs only [AU,AL,AO,AJ,BA,AR,AC,AA,AY,BS,BV,BR,AB,List.map_cons,List.map_nil,List.append_nil,↓reduceIte,Option.getD_some,Bool.not_false,ldM E.gm]
  refine (UQ G hG m hm _).use ?_
  simp -implicitDefEqProofs only [E8,A8,AX,BJ,BF,AZ,CJ,DI,AU,A9,AL,AO,AJ,BA,AR,AC,EQ,AA,AY,AQ,BD,BB,A7,IR,EC,BN,AB,DF,ED,↓reduceIte,Nat.reduceEqDiff,Option.getD_some,Bool.not_false,enP,Option.getD_none,bne,hb,UH,AVB,stZ E.g2 rfl,AUJ (EP E.g3 (show b3≠b2 by omega)) rfl]
  rw [YZ (ba:=b2) (bb:=b3) (by simp -implicitDefEqProofs only [AA,↓reduceIte,Nat.reduceEqDiff]) (by simp -implicitDefEqProofs only [AA,↓reduceIte,Nat.reduceEqDiff]) (LB (EP (EI E.g2) (show b2≠b3 by omega)) rfl) (VG (EI (EP E.g3 (show b3≠b2 by omega))) rfl)]
  exact ⟨by simp -implicitDefEqProofs only [AA,↓reduceIte],(E.hx.set (by omega) _).set (by omega) _⟩
theorem AXL (h:Hp) (m:Mo) (hn:m.pts.length≤1048576):IY Tryz.prog false h 26 (.int .i64 (m.pts.length:Int)) (.int .i64 (m.pts.length:Int))=some (.sl .full 1 (m.pts.map fun _=>IZ),h):=by
 have hz:L8 Tryz.prog 57=some IZ:=by kernel_rfl
 have hr:room m.pts.length 24:=JY (by omega) (by omega)
 unfold IY
 simp only [AFN,ABO,AH1,hz,Int.toNat_natCast]
 rw [if_pos ⟨by omega,Int.le_refl _,hr,rfl⟩]
 simp [List.map_const']
theorem AYG (xs:List (List AV)):JX Tryz.prog 47 [(0,.sl .full 1 xs)]=some (.agg [.sl .full 1 xs]):=by kernel_rfl
set_option maxHeartbeats 1000000 in
theorem AOG (G:Nat→AV) (m:Mo) (hm:MoOk m) (h:Hp):PCall (En G) 40 [.agg (DC m)] h (.tup [.agg (D5 (emV m)),.agg (MW (AQL m)),.int .i64 (FH m)]):=by
 by_cases h0:FH m=0
 ·have hb:(FH m == 0)=true:=by simpa using h0
  unfold emV AQL
  rw [if_pos h0,if_pos h0]
  have hg:=JF h0
  refine PCall.res (r := .tup [.agg (D5 (JG m)),.agg [.sl .full 1 (m.pts.map fun _=>IZ)],.int .i64 (FH m)]) ?_ (CvR.tup (CvRL.cons (CvR.refl _) (CvRL.cons (CvR.agg (CvRL.cons (CvR.sl (AK5 m.pts)) CvRL.nil)) (CvRL.refl _))))
  refine LU 3 (fun n H=>rfl) ?_
  refine BX (H:=Hint.none) (enM G) Tryz.func40 rfl (by kernel_rfl) (by kernel_rfl) (Nat.le_of_ble_eq_true (by kernel_rfl)) ?_
  show awp _ _ _ _ _ (EJ _ [.cell 2 28,.cell 3 47,.tmp 4] _)
  have E:=Ee.mk' h m
  simp -implicitDefEqProofs only [A8,AX,AZ,AU,A9,AL,AO,AJ,BA,AR,AC,AA,AY,AQ,BD,A7,FL,EW,BL,BO,BC,↓reduceIte,Nat.reduceEqDiff,Option.getD_some,Bool.not_false,enP,bxM,KN,ACA]
  generalize h ++ [ABlk.live 2 [DC m]] ++ [ABlk.live 4 [FV]] ++ [ABlk.live 1 [IZ]]=H0 at E ⊢
  generalize (h ++ [ABlk.live 2 [DC m]] ++ [ABlk.live 4 [FV]]).length=b3 at E ⊢
  generalize (h ++ [ABlk.live 2 [DC m]]).length=b2 at E ⊢
  have o2:=E.o2; have o3:=E.o3; have hlt:=E.lt
  simp -implicitDefEqProofs only [AU,AL,AO,AJ,BA,AR,AC,AA,AY,BS,BV,BR,AB,List.map_cons,List.map_nil,List.append_nil,↓reduceIte,Option.getD_some,Bool.not_false,ldM E.gm]
  refine (OI G m hm _).use ?_
  simp -implicitDefEqProofs only [A8,AX,BK,BF,AZ,DL,AU,A9,AL,AO,AJ,BA,AR,AC,AA,AY,AQ,BD,BB,A7,BN,AB,ED,↓reduceIte,Option.getD_some,Bool.not_true,Bool.not_false,enP,bne,hb]
  refine WY [(15,2),(1,2)] (by kernel_rfl) ?_ ?_
  ·simp -implicitDefEqProofs only [AA,BP,AG5,↓reduceIte,Nat.reduceEqDiff,XD,ABJ,ZH,AVS,and_true,true_and]
   omega
  simp -implicitDefEqProofs only [FJ,DT,CZ,DV,EN,DW,FP,FD,AL,AA,AY,BS,BL,BG,AB,List.map_cons,List.map_nil,List.append_nil,↓reduceIte,Nat.reduceEqDiff,Nat.reduceAdd,Nat.add_zero,Option.getD_some,enP,GZ,ldM E.gm]
  refine ⟨_,ANQ G m hm hg _,?_⟩
  try simp -implicitDefEqProofs only [FJ,E8,FI,DT,CZ,LD,EO,DV,GM,ADW,K8,NJ,FX,BJ,AZ,AL,AA,AY,AQ,BD,IR,EC,I9,C8,BO,AB,DF,↓reduceIte,Nat.reduceEqDiff,Nat.reduceAdd,Nat.zero_add,Option.getD_some,enP,OZ,Option.getD_none,E.m0,List.length_map,AXL _ m hm.np,AYG,stV E.g2 rfl,AUK (v3 := .sl .full 1 (m.pts.map fun _=>IZ)) (EP E.g3 (show b3≠b2 by omega)) rfl rfl]
  rw [YZ (ba:=b2) (bb:=b3) (by simp -implicitDefEqProofs only [AA,↓reduceIte,Nat.reduceEqDiff]) (by simp -implicitDefEqProofs only [AA,↓reduceIte,Nat.reduceEqDiff]) (ldV (EP (EI E.g2) (show b2≠b3 by omega))) (VG (EI (EP E.g3 (show b3≠b2 by omega))) rfl)]
  exact ⟨by simp -implicitDefEqProofs only [AA,↓reduceIte,h0],(E.hx.set (by omega) _).set (by omega) _⟩
 ·have hb:(FH m == 0)=false:=by simpa using h0
  unfold emV AQL
  rw [if_neg h0,if_neg h0]
  refine PCall.res ?_ (AQD _)
  refine LU 3 (fun n H=>rfl) ?_
  refine BX (H:=Hint.none) (enM G) Tryz.func40 rfl (by kernel_rfl) (by kernel_rfl) (Nat.le_of_ble_eq_true (by kernel_rfl)) ?_
  show awp _ _ _ _ _ (EJ _ [.cell 2 28,.cell 3 47,.tmp 4] _)
  have E:=Ee.mk' h m
  simp -implicitDefEqProofs only [A8,AX,AZ,AU,A9,AL,AO,AJ,BA,AR,AC,AA,AY,AQ,BD,A7,FL,EW,BL,BO,BC,↓reduceIte,Nat.reduceEqDiff,Option.getD_some,Bool.not_false,enP,bxM,KN,ACA]
  generalize h ++ [ABlk.live 2 [DC m]] ++ [ABlk.live 4 [FV]] ++ [ABlk.live 1 [IZ]]=H0 at E ⊢
  generalize (h ++ [ABlk.live 2 [DC m]] ++ [ABlk.live 4 [FV]]).length=b3 at E ⊢
  generalize (h ++ [ABlk.live 2 [DC m]]).length=b2 at E ⊢
  have o2:=E.o2; have o3:=E.o3; have hlt:=E.lt
  simp -implicitDefEqProofs only [AU,AL,AO,AJ,BA,AR,AC,AA,AY,BS,BV,BR,AB,List.map_cons,List.map_nil,List.append_nil,↓reduceIte,Option.getD_some,Bool.not_false,ldM E.gm]
  refine (OI G m hm _).use ?_
  simp -implicitDefEqProofs only [E8,A8,AX,BJ,BF,AZ,CJ,DI,AU,A9,AL,AO,AJ,BA,AR,AC,EQ,AA,AY,AQ,BD,BB,A7,IR,EC,BN,AB,DF,ED,↓reduceIte,Nat.reduceEqDiff,Option.getD_some,Bool.not_false,enP,Option.getD_none,bne,hb,UH,AVB,stZ E.g2 rfl,AUJ (EP E.g3 (show b3≠b2 by omega)) rfl]
  rw [YZ (ba:=b2) (bb:=b3) (by simp -implicitDefEqProofs only [AA,↓reduceIte,Nat.reduceEqDiff]) (by simp -implicitDefEqProofs only [AA,↓reduceIte,Nat.reduceEqDiff]) (LB (EP (EI E.g2) (show b2≠b3 by omega)) rfl) (VG (EI (EP E.g3 (show b3≠b2 by omega))) rfl)]
  exact ⟨by simp -implicitDefEqProofs only [AA,↓reduceIte],(E.hx.set (by omega) _).set (by omega) _⟩
end Go.Proofs.YtocilianjfhifaaGreatDoor.Cov
/- merge.merge, and the reference's Merge; no condition but the variables that are laid and the bounds on lengths. -/
set_option linter.unusedSimpArgs false
set_option maxRecDepth 8000
namespace Go.Proofs.YtocilianjfhifaaGreatDoor.Cov
open Go Go.Proofs Go.Proofs.YtocilianjfhifaaGreatDoor.Sm Go.Proofs.YtocilianjfhifaaGreatDoor.Bins Go.RowKit

theorem OW (h:Hp) (v:Cvr):FQ Tryz.prog (h ++ [ABlk.live 4 [FV]]) 28 (.ptr h.length 0 0) (.agg (D5 v))=some (h ++ [ABlk.live 4 [D5 v]]):=by rw [stV (CQ _ _) rfl,PN]
theorem AYH (s t:SM) (xs ys:List (List AV)) (a b:Int):JX Tryz.prog 28 [(0,.sl s 1 xs),(1,.sl t 1 ys),(2,.int .i64 a),(3,.int .i64 b)]=some (.agg [.sl s 1 xs,.sl t 1 ys,.int .i64 a,.int .i64 b]):=by kernel_rfl
theorem AC4 (l:List Cvr) (e:Cvr) (i:Nat) (hi:i < l.length):(l.take (i+1)).foldl ND e=ND ((l.take i).foldl ND e) l[i]:=by
 rw [List.take_succ_eq_append_getElem hi,List.foldl_append]; rfl
structure Mg (h H:Hp) (b4 b5:Nat) (c:Cvr):Prop where
 g4:H[b4]? = some (ABlk.live 4 [FV])
 g5:H[b5]? = some (ABlk.live 4 [D5 c])
 o4:h.length < b4
 o5:b4 < b5
 hx:ext h H
set_option maxHeartbeats 2000000 in
theorem AI9 (G:Nat→AV) (m:Mo) (e:Cvr) (l:List Cvr) (s:SM) (h:Hp) (he:E9 m e=true) (hl : ∀ v∈l,E9 m v=true) (hn:l.length≤1048576):PCall (En G) 85 [.agg (D5 e),.sl s 4 (l.map D5)] h (.agg (D5 (l.foldl ND e))):=by
 refine LU 2 (fun n H=>rfl) ?_
 refine BX (H:=Hint.none) (enM G) Tryz.func85 rfl (by kernel_rfl) (by kernel_rfl) (Nat.le_of_ble_eq_true (by kernel_rfl)) ?_
 show awp _ _ _ _ _ (EJ _ [.cell 4 28] _)
 have E:Mg h (h ++ [ABlk.live 4 [D5 e]] ++ [ABlk.live 4 [FV]] ++ [ABlk.live 4 [D5 e]]) (h ++ [ABlk.live 4 [D5 e]]).length (h ++ [ABlk.live 4 [D5 e]] ++ [ABlk.live 4 [FV]]).length e :=
  ⟨C9 (CQ _ _),CQ _ _,by simp,by simp,(((ext.rfl' h).app _).app _).app _⟩
 have g1:(h ++ [ABlk.live 4 [D5 e]] ++ [ABlk.live 4 [FV]])[h.length]? = some (ABlk.live 4 [D5 e]):=C9 (CQ _ _)
 simp -implicitDefEqProofs only [A8,BM,AX,AZ,AU,A9,AL,AO,AJ,BA,AR,AC,EQ,AA,AY,AQ,BD,BB,FL,EW,BL,EC,C8,BO,AB,DF,BC,BP,↓reduceIte,Nat.reduceEqDiff,Option.getD_some,Bool.not_false,enP,OY,Option.getD_none,bxV,KN,ldV g1,OW,List.length_map]
 generalize h ++ [ABlk.live 4 [D5 e]] ++ [ABlk.live 4 [FV]] ++ [ABlk.live 4 [D5 e]]=H0 at E ⊢
 generalize (h ++ [ABlk.live 4 [D5 e]] ++ [ABlk.live 4 [FV]]).length=b5 at E ⊢
 generalize (h ++ [ABlk.live 4 [D5 e]]).length=b4 at E ⊢
 refine CS (fun n F H => ∃ i,n+i=l.length∧F 4 = .ptr b4 0 0∧F 5 = .ptr b5 0 0∧F 9 = .sl s 4 (l.map D5)∧F 10 = .int .i64 l.length∧F 11 = .int .i64 (i:Nat)∧Mg h H b4 b5 ((l.take i).foldl ND e)) l.length ⟨0,by simp,by simp -implicitDefEqProofs only [AA,↓reduceIte,Nat.reduceEqDiff],by simp -implicitDefEqProofs only [AA,↓reduceIte,Nat.reduceEqDiff],by simp -implicitDefEqProofs only [AA,↓reduceIte,Nat.reduceEqDiff],by simp -implicitDefEqProofs only [AA,↓reduceIte,Nat.reduceEqDiff],by simp -implicitDefEqProofs only [AA,↓reduceIte]; rfl,by rw [List.take_zero]; exact E⟩ ?_
 clear E g1
 rintro n F H ⟨i,hi,f4,f5,f9,f10,f11,E⟩
 have o4:=E.o4; have o5:=E.o5
 simp -implicitDefEqProofs only [A8,AX,BF,AZ,AU,A9,AL,AO,AJ,BA,AR,AC,AA,AY,BN,AB,CO,↓reduceIte,Option.getD_some,Bool.not_false,enP,f10,f11]
 refine CG (fun hc => ?_) (fun hc => ?_)
 ·have hi':i < l.length:=by simpa using hc
  have hs:=AC4 l e i hi'
  have hc1:=TN (l.take i) e he (fun v hv=>hl v (List.mem_of_mem_take hv))
  have hv1:=hl _ (List.getElem_mem hi')
  generalize (l.take i).foldl ND e=c at hs hc1 E
  have gc:(H ++ [ABlk.live 4 [D5 l[i]]])[b5]? = some (ABlk.live 4 [D5 c]):=C9 E.g5
  have gv:=CQ H (ABlk.live 4 [D5 l[i]])
  have w1:=JA.1 (IP.1 hc1).2.2.2.1
  simp -implicitDefEqProofs only [A8,BM,AX,BK,AZ,AU,A9,AL,AO,AJ,BA,AR,AC,EQ,AA,AY,FL,BL,EC,BU,BO,AB,DF,↓reduceIte,Nat.reduceEqDiff,Option.getD_some,Bool.not_false,enP,X6,Option.getD_none,f9,f11,CW hi',ES V6 PY JQ hi',KN,OW]
  refine EG (by kernel_rfl) ?_
  simp -implicitDefEqProofs only [FJ,DT,CZ,DV,EN,DW,FP,FD,AL,AA,AY,BS,BL,BG,AB,List.map_cons,List.map_nil,List.append_nil,↓reduceIte,Nat.reduceEqDiff,Nat.reduceAdd,Nat.add_zero,Nat.zero_add,Option.getD_some,enP,NA,ME,f5,lv0 gc,lv0 gv]
  refine ⟨_,Z5 G _ _ _ _ _ (AKT hc1 hv1),?_⟩
  try simp -implicitDefEqProofs only [FJ,DT,CZ,DV,EN,DW,FP,FD,AL,AA,AY,BS,BL,BG,AB,List.map_cons,List.map_nil,List.append_nil,↓reduceIte,Nat.reduceEqDiff,Nat.reduceAdd,Nat.zero_add,Option.getD_some,enP,ME,WR,f5,lv1 gc,lv1 gv]
  refine ⟨_,Z5 G _ _ _ _ _ (AKU hc1 hv1),?_⟩
  try simp -implicitDefEqProofs only [FJ,DT,CZ,DV,EN,DW,FP,FD,AL,AA,AY,BS,BL,BG,AB,List.map_cons,List.map_nil,List.append_nil,↓reduceIte,Nat.reduceEqDiff,Nat.reduceAdd,Nat.zero_add,Option.getD_some,enP,WR,AAS,f5,lv2 gc,lv2 gv]
  refine ⟨_,ABF G _ _ _ (IP.1 hc1).2.2.2.1 (IP.1 hv1).2.2.2.1,?_⟩
  try simp -implicitDefEqProofs only [FJ,E8,FI,DT,CZ,DV,ADW,EN,DW,FP,FD,AL,AA,AY,BS,IR,BL,BG,AB,List.map_cons,List.map_nil,List.append_nil,↓reduceIte,Nat.reduceEqDiff,Nat.reduceAdd,Nat.zero_add,Option.getD_some,enP,AAS,f5,lv3 gc,lv3 gv]
  refine ⟨_,ABF G _ _ _ (IP.1 hc1).2.2.2.2 (IP.1 hv1).2.2.2.2,?_⟩
  have hst:=stV (v:=ND c l[i]) gc rfl
  have hst':FQ Tryz.prog (H ++ [ABlk.live 4 [D5 l[i]]]) 28 (.ptr b5 0 0) (.agg [.sl (nm (JW c.pts l[i].pts)) 1 ((JW c.pts l[i].pts).map GG),.sl (nm (JW c.crs l[i].crs)) 1 ((JW c.crs l[i].crs).map GG),.int .i64 (TA c.sam l[i].sam),.int .i64 (TA c.ill l[i].ill)])=some ((H ++ [ABlk.live 4 [D5 l[i]]]).set b5 (ABlk.live 4 [D5 (ND c l[i])])):=hst
  try simp -implicitDefEqProofs only [FJ,DT,CZ,LD,EO,DV,K8,AX,AZ,DU,DZ,AU,A9,AL,AO,AJ,BA,AR,AC,AA,AY,AQ,BD,BB,EC,BN,AB,DF,CR,↓reduceIte,Nat.reduceEqDiff,Nat.zero_add,Option.getD_some,Bool.not_false,enP,Option.getD_none,AYH,f5,hst',f11,CB (show i < 9223372036854775807 by omega)]
  refine ⟨n - 1,by omega,i+1,by omega,f4,trivial,f9,f10,rfl,?_⟩
  rw [hs]
  exact ⟨EP (C9 E.g4) (by omega),EI gc,o4,o5,(E.hx.app _).set (by omega) _⟩
 ·have hi' : ¬ i < l.length:=by simpa using hc
  rw [List.take_of_length_le (by omega)] at E
  simp -implicitDefEqProofs only [A8,AX,BJ,CU,AZ,DR,EB,EF,AU,A9,AL,AO,AJ,BA,AR,AC,EQ,AA,AY,BL,EC,AB,DF,↓reduceIte,Nat.reduceEqDiff,Option.getD_some,Bool.not_false,enP,Option.getD_none,f4,f5,ldV E.g5,stV E.g4 rfl]
  rw [AAV (b:=b4) (by simp -implicitDefEqProofs only [AA,↓reduceIte,Nat.reduceEqDiff,f4]) (ldV (EI E.g4))]
  exact ⟨rfl,E.hx.set (by omega) _⟩
/-- what the reference's Merge returns -/
def AD6 (m:Mo) (a b:Cvr):List AV:=if NV m [a,b]=0 then D5 (ND a b) else FV
theorem AR8 (m:Mo) (a b:Cvr) (e:Int):CvR (.tup [.agg (AD6 m a b),.int .i64 e]) (.tup [.agg (D5 (AM6 m a b)),.int .i64 e]):=by
 unfold AD6 AM6
 split
 ·exact CvR.refl _
 ·exact CvR.tup (CvRL.cons AON (CvRL.refl _))
theorem ABB {m:Mo} {l:List Cvr} (h:FH m≠0):NV m l=FH m:=by unfold NV; rw [if_neg h]
theorem SV {m:Mo} {l:List Cvr} (h:FH m=0) {v:Cvr} (hv:v∈l) (hf:E9 m v=false):NV m l=1:=by
 unfold NV
 rw [if_pos h,if_neg]
 intro e
 rw [List.all_eq_true.1 e v hv] at hf
 cases hf
structure Mr (h H:Hp) (m:Mo) (a b:Cvr) (b4 b5 b6:Nat):Prop where
 gm:H[h.length]? = some (ABlk.live 2 [DC m])
 ga:H[b4]? = some (ABlk.live 4 [D5 a])
 gb:H[b5]? = some (ABlk.live 4 [D5 b])
 g6:H[b6]? = some (ABlk.live 4 [FV])
 o4:h.length < b4
 o5:b4 < b5
 o6:b5 < b6
 hx:ext h H
theorem Mr.mk' (h:Hp) (m:Mo) (a b:Cvr):Mr h (h ++ [ABlk.live 2 [DC m]] ++ [ABlk.live 4 [D5 a]] ++ [ABlk.live 4 [D5 b]] ++ [ABlk.live 4 [FV]]) m a b (h ++ [ABlk.live 2 [DC m]]).length (h ++ [ABlk.live 2 [DC m]] ++ [ABlk.live 4 [D5 a]]).length (h ++ [ABlk.live 2 [DC m]] ++ [ABlk.live 4 [D5 a]] ++ [ABlk.live 4 [D5 b]]).length :=
 ⟨C9 (C9 (C9 (CQ _ _))),C9 (C9 (CQ _ _)),C9 (CQ _ _),CQ _ _,by simp,by simp,by simp,((((ext.rfl' h).app _).app _).app _).app _⟩
theorem AO8 (m:Mo) (a b:Cvr) (e:Int) (n:Nat) (H:Hp):IM n H 3 (.tup [.agg (AD6 m a b),.int .i64 e]) = .tup [.agg (AD6 m a b),.int .i64 e]:=by
 unfold AD6; split <;> rfl
set_option maxHeartbeats 1000000 in
theorem AOD (G:Nat→AV) (m:Mo) (a b:Cvr) (hm:MoOk m) (ha:CvOk a) (hb:CvOk b) (h:Hp):PCall (En G) 38 [.agg (DC m),.agg (D5 a),.agg (D5 b)] h (.tup [.agg (D5 (AM6 m a b)),.int .i64 (NV m [a,b])]):=by
 refine PCall.res ?_ (AR8 m a b _)
 refine LU 3 (AO8 m a b _) ?_
 refine BX (H:=Hint.none) (enM G) Tryz.func38 rfl (by kernel_rfl) (by kernel_rfl) (Nat.le_of_ble_eq_true (by kernel_rfl)) ?_
 show awp _ _ _ _ _ (EJ _ [.cell 6 28,.tmp 7] _)
 have t:=Mr.mk' h m a b
 simp -implicitDefEqProofs only [A8,AX,AZ,AU,A9,AL,AO,AJ,BA,AR,AC,AA,AY,AQ,BD,A7,FL,EW,BL,BO,BC,BP,↓reduceIte,Nat.reduceEqDiff,Option.getD_some,Bool.not_false,enP,bxM,bxV,KN]
 generalize h ++ [ABlk.live 2 [DC m]] ++ [ABlk.live 4 [D5 a]] ++ [ABlk.live 4 [D5 b]] ++ [ABlk.live 4 [FV]]=H at t ⊢
 generalize (h ++ [ABlk.live 2 [DC m]] ++ [ABlk.live 4 [D5 a]] ++ [ABlk.live 4 [D5 b]]).length=b6 at t ⊢
 generalize (h ++ [ABlk.live 2 [DC m]] ++ [ABlk.live 4 [D5 a]]).length=b5 at t ⊢
 generalize (h ++ [ABlk.live 2 [DC m]]).length=b4 at t ⊢
 have o4:=t.o4; have o5:=t.o5; have o6:=t.o6
 simp -implicitDefEqProofs only [AU,AL,AO,AJ,BA,AR,AC,AA,AY,BS,BV,BR,AB,List.map_cons,List.map_nil,List.append_nil,↓reduceIte,Option.getD_some,Bool.not_false,ldM t.gm]
 refine (OI G m hm _).use ?_
 simp -implicitDefEqProofs only [A8,AX,BF,AZ,AU,A9,AL,AO,AJ,BA,AR,AC,AA,AY,AQ,BD,BB,A7,BN,AB,ED,↓reduceIte,Option.getD_some,Bool.not_false,enP,bne]
 cases h1:(FH m == 0)
 ·have h1':FH m≠0:=by simpa using h1
  have hne:=ABB (l := [a,b]) h1'
  simp -implicitDefEqProofs only [E8,A8,AX,BJ,AZ,CJ,DI,AU,A9,AL,AO,AJ,BA,AR,AC,EQ,AA,AY,BB,A7,IR,EC,AB,DF,↓reduceIte,Nat.reduceEqDiff,Option.getD_some,Bool.not_false,enP,Option.getD_none,UH,stZ t.g6 rfl]
  rw [NH (ba:=b6) (by simp -implicitDefEqProofs only [AA,↓reduceIte,Nat.reduceEqDiff]) (LB (EI t.g6) rfl)]
  exact ⟨by simp -implicitDefEqProofs only [AA,↓reduceIte,hne]; unfold AD6; rw [hne,if_neg h1'],t.hx.set (by omega) _⟩
 have h1':FH m=0:=by simpa using h1
 have bad:E9 m a=false∨E9 m b=false→NV m [a,b]=1:=fun hh=>by
  rcases hh with hh | hh
  ·exact SV h1' (v:=a) (by simp) hh
  ·exact SV h1' (v:=b) (by simp) hh
 have badR:E9 m a=false∨E9 m b=false→AD6 m a b=FV:=fun hh=>by
  unfold AD6; rw [bad hh]; rfl
 simp -implicitDefEqProofs only [A8,AX,BK,AZ,DL,AU,AL,AO,AJ,BA,AR,AC,AA,AY,BS,BL,BV,BR,AB,List.map_cons,List.map_nil,List.append_nil,↓reduceIte,Nat.reduceEqDiff,Option.getD_some,Bool.not_true,Bool.not_false,enP,ldM t.gm,ldV t.ga]
 refine (SI G m a hm ha _).use ?_
 simp -implicitDefEqProofs only [AU,BH,BQ,BZ,AL,AO,AJ,BA,AR,AC,AA,AY,BB,F9,AB,ER,↓reduceIte,Option.getD_some,Bool.not_false]
 cases h2:E9 m a
 ·simp -implicitDefEqProofs only [E8,A8,AX,BJ,BF,AZ,CJ,DI,AU,A9,BH,BQ,BZ,FN,AL,AO,AJ,BA,AR,AC,EQ,AA,EM,AY,AQ,BD,BI,A7,CF,DJ,IR,EC,AB,DF,↓reduceIte,Nat.reduceEqDiff,Option.getD_some,Bool.not_false,enP,Option.getD_none,UH,stZ t.g6 rfl]
  rw [NH (ba:=b6) (by simp -implicitDefEqProofs only [AA,↓reduceIte,Nat.reduceEqDiff]) (LB (EI t.g6) rfl)]
  exact ⟨by simp -implicitDefEqProofs only [AA,↓reduceIte]; rw [bad (.inl h2),badR (.inl h2)],t.hx.set (by omega) _⟩
 simp -implicitDefEqProofs only [BH,BQ,BZ,EH,AL,AO,AJ,BA,AR,AC,AA,AY,BS,BL,BV,BR,AB,List.map_cons,List.map_nil,List.append_nil,↓reduceIte,Nat.reduceEqDiff,Option.getD_some,Bool.not_true,Bool.not_false,enP,ldM t.gm,ldV t.gb]
 refine (SI G m b hm hb _).use ?_
 simp -implicitDefEqProofs only [BF,AZ,AU,A9,BH,BQ,BZ,EH,AL,AO,AJ,BA,AR,AC,AA,AY,AQ,BI,CF,DK,F9,AB,ER,↓reduceIte,Nat.reduceEqDiff,Option.getD_some,Bool.not_false]
 cases h3:E9 m b
 ·simp -implicitDefEqProofs only [E8,A8,AX,BJ,AZ,CJ,DI,AU,A9,AL,AO,AJ,BA,AR,AC,EQ,AA,AY,AQ,BD,A7,IR,EC,AB,DF,↓reduceIte,Nat.reduceEqDiff,Option.getD_some,Bool.not_false,enP,Option.getD_none,UH,stZ t.g6 rfl]
  rw [NH (ba:=b6) (by simp -implicitDefEqProofs only [AA,↓reduceIte,Nat.reduceEqDiff]) (LB (EI t.g6) rfl)]
  exact ⟨by simp -implicitDefEqProofs only [AA,↓reduceIte]; rw [bad (.inr h3),badR (.inr h3)],t.hx.set (by omega) _⟩
 have hz:=AIA h2 h3
 have w1:=JA.1 (IP.1 h2).2.2.2.1
 have w2:=JA.1 (IP.1 h3).2.2.2.1
 have w3:=JA.1 (IP.1 h2).2.2.2.2
 have w4:=JA.1 (IP.1 h3).2.2.2.2
 have hst:=stV (v:=ND a b) t.g6 rfl
 have hst':FQ Tryz.prog H 28 (.ptr b6 0 0) (.agg [.sl (nm (JW a.pts b.pts)) 1 ((JW a.pts b.pts).map GG),.sl (nm (JW a.crs b.crs)) 1 ((JW a.crs b.crs).map GG),.int .i64 (min (a.sam+b.sam) 1099511627776),.int .i64 (min (a.ill+b.ill) 1099511627776)])=some (H.set b6 (ABlk.live 4 [D5 (ND a b)])):=hst
 simp -implicitDefEqProofs only [A8,BK,AZ,DL,Bool.not_true]
 refine EG (by kernel_rfl) ?_
 simp -implicitDefEqProofs only [FJ,DT,CZ,DV,EN,DW,FP,FD,AL,AA,AY,BS,BL,BG,AB,List.map_cons,List.map_nil,List.append_nil,↓reduceIte,Nat.reduceEqDiff,Nat.reduceAdd,Nat.add_zero,Nat.zero_add,Option.getD_some,enP,NA,ME,lv0 t.ga,lv0 t.gb]
 refine ⟨_,AFS G _ _ _ _ _ (AKT h2 h3),?_⟩
 try simp -implicitDefEqProofs only [FJ,DT,CZ,DV,EN,DW,FP,FD,AL,AA,AY,BS,BL,BG,AB,List.map_cons,List.map_nil,List.append_nil,↓reduceIte,Nat.reduceEqDiff,Nat.reduceAdd,Nat.zero_add,Option.getD_some,enP,ME,WR,lv1 t.ga,lv1 t.gb]
 refine ⟨_,AFS G _ _ _ _ _ (AKU h2 h3),?_⟩
 try simp -implicitDefEqProofs only [FJ,E8,FI,DT,CZ,LD,EO,DV,GM,ADW,EN,K8,GK,DW,FX,BJ,AZ,AL,AA,AY,AQ,BD,IR,BL,EC,BN,BG,AFG,AB,DF,CR,ZX,↓reduceIte,Nat.reduceEqDiff,Nat.reduceAdd,Nat.zero_add,Option.getD_some,enP,WR,AAS,Option.getD_none,lv2 t.ga,lv2 t.gb,lv3 t.ga,lv3 t.gb,wrap_i64 (n:=a.sam+b.sam) (by omega) (by omega),wrap_i64 (n:=a.ill+b.ill) (by omega) (by omega),AYH,hst']
 rw [NH (ba:=b6) (by simp -implicitDefEqProofs only [AA,↓reduceIte,Nat.reduceEqDiff]) (ldV (EI t.g6))]
 exact ⟨by simp -implicitDefEqProofs only [AA,↓reduceIte]; unfold AD6; rw [hz]; rfl,t.hx.set (by omega) _⟩
end Go.Proofs.YtocilianjfhifaaGreatDoor.Cov
/- merge.All, merge.Merge, the reference's All; no condition but the variables that are laid, the bounds on lengths, and cover.tuple's contract. -/
set_option linter.unusedSimpArgs false
set_option maxRecDepth 8000
namespace Go.Proofs.YtocilianjfhifaaGreatDoor.Cov
open Go Go.Proofs Go.Proofs.YtocilianjfhifaaGreatDoor.Sm Go.Proofs.YtocilianjfhifaaGreatDoor.Bins Go.RowKit

def AD5 (m:Mo) (l:List Cvr):List AV:=if NV m l=0 then D5 (ARA m l) else FV
theorem AKX (m:Mo) (l:List Cvr) (e:Int):CvR (.tup [.agg (AD5 m l),.int .i64 e]) (.tup [.agg (D5 (LF m l)),.int .i64 e]):=by
 unfold AD5 LF
 split
 ·exact CvR.refl _
 ·exact CvR.tup (CvRL.cons AON (CvRL.refl _))
theorem AGA (m:Mo) (l:List Cvr) (e:Int) (n:Nat) (H:Hp):IM n H 3 (.tup [.agg (AD5 m l),.int .i64 e]) = .tup [.agg (AD5 m l),.int .i64 e]:=by
 unfold AD5; split <;> rfl
theorem VC {m:Mo} {l:List Cvr} (h:NV m l≠0):AD5 m l=FV:=by unfold AD5; rw [if_neg h]
/-- a model, a result, a coverage and a track in blocks -/
structure Al (h H:Hp) (m:Mo) (c:Cvr) (b4 b6:Nat):Prop where
 gm:H[h.length]? = some (ABlk.live 2 [DC m])
 g4:H[b4]? = some (ABlk.live 4 [FV])
 g6:H[b6]? = some (ABlk.live 4 [D5 c])
 o4:h.length < b4
 o6:b4 < b6
 hx:ext h H
theorem Al.app {h H:Hp} {m:Mo} {c:Cvr} {b4 b6:Nat} (E:Al h H m c b4 b6) (x:Hp):Al h (H ++ x) m c b4 b6:=⟨H6 E.gm,H6 E.g4,H6 E.g6,E.o4,E.o6,E.hx.app _⟩
theorem Al.up {h H H':Hp} {m:Mo} {c:Cvr} {b4 b6:Nat} (E:Al h H m c b4 b6) (hx:ext H H'):Al h H' m c b4 b6:=by
 obtain ⟨x,rfl⟩:=hx; exact E.app x
theorem Al.put6 {h H:Hp} {m:Mo} {c:Cvr} {b4 b6:Nat} (E:Al h H m c b4 b6) (v:Cvr):Al h (H.set b6 (ABlk.live 4 [D5 v])) m v b4 b6:=by
 have o4:=E.o4; have o6:=E.o6
 exact ⟨EP E.gm (by omega),EP E.g4 (by omega),EI E.g6,o4,o6,E.hx.set (by omega) _⟩
/-- what is laid of an Empty's results -/
theorem AXP {h H0:Hp} {m:Mo} {b4:Nat} (c:Cvr) (t:Tk) (gm:H0[h.length]? = some (ABlk.live 2 [DC m])) (g4:H0[b4]? = some (ABlk.live 4 [FV])) (o4:h.length < b4) (hx:ext h H0) :
  FQ Tryz.prog (H0 ++ [ABlk.live 4 [FV]] ++ [ABlk.live 1 [IZ]]) 28 (.ptr H0.length 0 0) (.agg (D5 c))=some ((H0 ++ [ABlk.live 4 [FV]] ++ [ABlk.live 1 [IZ]]).set H0.length (ABlk.live 4 [D5 c])) ∧
  FQ Tryz.prog ((H0 ++ [ABlk.live 4 [FV]] ++ [ABlk.live 1 [IZ]]).set H0.length (ABlk.live 4 [D5 c])) 47 (.ptr (H0 ++ [ABlk.live 4 [FV]]).length 0 0) (.agg (MW t))=some (((H0 ++ [ABlk.live 4 [FV]] ++ [ABlk.live 1 [IZ]]).set H0.length (ABlk.live 4 [D5 c])).set (H0 ++ [ABlk.live 4 [FV]]).length (ABlk.live 1 [MW t])) ∧
  Al h (((H0 ++ [ABlk.live 4 [FV]] ++ [ABlk.live 1 [IZ]]).set H0.length (ABlk.live 4 [D5 c])).set (H0 ++ [ABlk.live 4 [FV]]).length (ABlk.live 1 [MW t])) m c b4 H0.length:=by
 obtain ⟨s1,s2,g6,_,hx5⟩:=AS2 H0 c t
 exact ⟨s1,s2,GN hx5 gm,GN hx5 g4,g6,o4,CE g4,hx.trans hx5⟩
set_option maxHeartbeats 2000000 in
theorem AIJ (G:Nat→AV) (hG:GOk G) (hT:I4 G) (m:Mo) (l:List Cvr) (s:SM) (hm:MoOk m) (hl : ∀ v∈l,CvOk v) (hn:l.length≤1048576) (h:Hp):PCall (En G) 34 [.agg (DC m),.sl s 4 (l.map D5)] h (.tup [.agg (D5 (LF m l)),.int .i64 (NV m l)]):=by
 refine PCall.res ?_ (AKX m l _)
 refine LU 3 (AGA m l _) ?_
 refine BX (H:=Hint.none) (enM G) Tryz.func34 rfl (by kernel_rfl) (by kernel_rfl) (Nat.le_of_ble_eq_true (by kernel_rfl)) ?_
 show awp _ _ _ _ _ (EJ _ [.cell 4 28,.tmp 5] _)
 have gm:(h ++ [ABlk.live 2 [DC m]] ++ [ABlk.live 4 [FV]])[h.length]? = some (ABlk.live 2 [DC m]):=C9 (CQ _ _)
 have g4:(h ++ [ABlk.live 2 [DC m]] ++ [ABlk.live 4 [FV]])[(h ++ [ABlk.live 2 [DC m]]).length]? = some (ABlk.live 4 [FV]):=CQ _ _
 have o4:h.length < (h ++ [ABlk.live 2 [DC m]]).length:=by simp
 have hx:ext h (h ++ [ABlk.live 2 [DC m]] ++ [ABlk.live 4 [FV]]):=((ext.rfl' h).app _).app _
 simp -implicitDefEqProofs only [A8,AX,AZ,AU,A9,AL,AO,AJ,BA,AR,AC,AA,AY,AQ,BD,A7,FL,EW,BL,BO,BC,↓reduceIte,Nat.reduceEqDiff,Option.getD_some,Bool.not_false,enP,bxM,KN]
 generalize h ++ [ABlk.live 2 [DC m]] ++ [ABlk.live 4 [FV]]=H0 at gm g4 hx ⊢
 generalize (h ++ [ABlk.live 2 [DC m]]).length=b4 at g4 o4 ⊢
 obtain ⟨s1,s2,E⟩:=AXP (emV m) (emT m) gm g4 o4 hx
 have l4:=CE g4
 simp -implicitDefEqProofs only [AU,AL,AO,AJ,BA,AR,AC,AA,AY,BS,BV,BR,AB,List.map_cons,List.map_nil,List.append_nil,↓reduceIte,Option.getD_some,Bool.not_false,ldM gm]
 refine (U5 G hG m hm _).use ?_
 simp -implicitDefEqProofs only [List.getElem?_cons_zero,List.getElem?_cons_succ,A8,AX,BF,AZ,AU,A9,AL,AO,AJ,BA,AR,AC,EQ,AA,AY,AQ,BD,BB,A7,FL,EC,BN,D8,FB,BO,AB,DF,ED,↓reduceIte,Nat.reduceEqDiff,Option.getD_some,Bool.not_false,enP,Option.getD_none,KN,ACA,s1,s2,bne]
 generalize ((H0 ++ [ABlk.live 4 [FV]] ++ [ABlk.live 1 [IZ]]).set H0.length (ABlk.live 4 [D5 (emV m)])).set (H0 ++ [ABlk.live 4 [FV]]).length (ABlk.live 1 [MW (emT m)])=H1 at E ⊢
 generalize H0.length=b6 at E l4 ⊢
 clear s1 s2 gm g4 hx
 cases h1:(FH m == 0)
 ·have h1':FH m≠0:=by simpa using h1
  have hne:=ABB (l:=l) h1'
  simp -implicitDefEqProofs only [E8,A8,AX,BJ,AZ,CJ,DI,AU,A9,AL,AO,AJ,BA,AR,AC,EQ,AA,AY,BB,A7,IR,EC,AB,DF,↓reduceIte,Nat.reduceEqDiff,Option.getD_some,Bool.not_false,enP,Option.getD_none,UH,stZ E.g4 rfl]
  rw [NH (ba:=b4) (by simp -implicitDefEqProofs only [AA,↓reduceIte,Nat.reduceEqDiff]) (LB (EI E.g4) rfl)]
  exact ⟨by simp -implicitDefEqProofs only [AA,↓reduceIte,hne]; rw [VC (by rw [hne]; exact h1')],E.hx.set (by omega) _⟩
 have h1':FH m=0:=by simpa using h1
 have hem:emV m=JG m:=by unfold emV; rw [if_pos h1']
 rw [hem] at E
 simp -implicitDefEqProofs only [A8,BM,AX,BK,AZ,DL,AU,A9,AL,AO,AJ,BA,AR,AC,AA,AY,AQ,BD,BB,C8,AB,BC,BP,↓reduceIte,Nat.reduceEqDiff,Option.getD_some,Bool.not_true,Bool.not_false,enP,OY,List.length_map]
 refine FO 0 (fun F H=>F 1 = .sl s 4 (l.map D5)∧F 4 = .ptr b4 0 0∧F 6 = .ptr b6 0 0∧Al h H m (JG m) b4 b6∧∀ v∈l,E9 m v=true) (fun F H=>F 4 = .ptr b4 0 0∧F 5 = .int .i64 1∧H[b4]? = some (ABlk.live 4 [FV])∧Sm.ext h H∧NV m l=1) ?_ ?_ ?_
 ·refine CS (fun n F H => ∃ i,n+i=l.length∧F 1 = .sl s 4 (l.map D5)∧F 2 = .ptr h.length 0 0∧F 4 = .ptr b4 0 0∧F 6 = .ptr b6 0 0∧F 21 = .sl s 4 (l.map D5)∧F 22 = .int .i64 l.length∧F 23 = .int .i64 (i:Nat)∧Al h H m (JG m) b4 b6∧∀ v∈l.take i,E9 m v=true) l.length ⟨0,by simp,by simp -implicitDefEqProofs only [AA,BC,BP,↓reduceIte,Nat.reduceEqDiff],by simp -implicitDefEqProofs only [AA,↓reduceIte,Nat.reduceEqDiff],by simp -implicitDefEqProofs only [AA,↓reduceIte,Nat.reduceEqDiff],by simp -implicitDefEqProofs only [AA,↓reduceIte,Nat.reduceEqDiff],by simp -implicitDefEqProofs only [AA,↓reduceIte,Nat.reduceEqDiff],by simp -implicitDefEqProofs only [AA,↓reduceIte,Nat.reduceEqDiff],by simp -implicitDefEqProofs only [AA,↓reduceIte]; rfl,E,by simp⟩ ?_
  clear E
  rintro n F H ⟨i,hi,f1,f2,f4,f6,f21,f22,f23,E,hf⟩
  simp -implicitDefEqProofs only [A8,AX,BF,AZ,AU,A9,AL,AO,AJ,BA,AR,AC,AA,AY,BN,AB,CO,↓reduceIte,Option.getD_some,Bool.not_false,enP,f22,f23]
  refine CG (fun hc => ?_) (fun hc => ?_)
  ·have hi':i < l.length:=by simpa using hc
   have E1:=E.app [ABlk.live 4 [D5 l[i]]]
   have gT:=ldV (CQ H (ABlk.live 4 [D5 l[i]]))
   simp -implicitDefEqProofs only [A8,BM,AX,BK,AZ,AU,A9,AL,AO,AJ,BA,AR,AC,EQ,AA,AY,BS,FL,BL,EC,BU,BV,BR,BO,AB,DF,List.map_cons,List.map_nil,List.append_nil,↓reduceIte,Nat.reduceEqDiff,Option.getD_some,Bool.not_false,enP,X6,Option.getD_none,f2,f21,f23,CW hi',ES V6 PY JQ hi',KN,OW,ldM E1.gm,gT]
   refine (TP G hG hT m l[i] hm (hl _ (List.getElem_mem hi')) _).use ?_
   simp -implicitDefEqProofs only [BF,AZ,AU,A9,AL,AO,AJ,BA,AR,AC,AA,AY,F9,AB,ER,↓reduceIte,Option.getD_some,Bool.not_false]
   cases hv:E9 m l[i]
   ·simp -implicitDefEqProofs only [E8,A8,AX,BJ,AZ,CJ,D6,KC,EZ,DI,AU,A9,AL,AO,AJ,BA,AR,AC,EQ,AA,AY,AQ,BD,A7,IR,EC,AB,DF,↓reduceIte,Nat.reduceEqDiff,Option.getD_some,Bool.not_false,enP,Option.getD_none,UH,f4,stZ E1.g4 rfl]
    exact ⟨trivial,trivial,EI E1.g4,E1.hx.set (by have:=E1.o4; omega) _,SV h1' (List.getElem_mem hi') hv⟩
   ·simp -implicitDefEqProofs only [AX,BK,AZ,DU,DZ,DL,AU,A9,AL,AO,AJ,BA,AR,AC,AA,AY,AQ,BD,BB,BN,AB,CR,↓reduceIte,Nat.reduceEqDiff,Option.getD_some,Bool.not_true,Bool.not_false,enP,f23,CB (show i < 9223372036854775807 by omega)]
    refine ⟨n - 1,by omega,i+1,by omega,f1,f2,f4,f6,f21,f22,rfl,E1,fun v hv' => ?_⟩
    rw [List.take_succ_eq_append_getElem hi'] at hv'
    rcases List.mem_append.1 hv' with hv' | hv'
    ·exact hf v hv'
    ·simp at hv'; rw [hv']; exact hv
  ·have hi' : ¬ i < l.length:=by simpa using hc
   rw [List.take_of_length_le (by omega)] at hf
   simp -implicitDefEqProofs only [CU,DR,II,EF,AA,↓reduceIte,Nat.reduceEqDiff]
   exact ⟨f1,f4,f6,E,hf⟩
 ·rintro F H ⟨f1,f4,f6,E,hf⟩
  have hz:NV m l=0:=OT.2 ⟨h1',hf⟩
  have o6:=E.o6
  simp -implicitDefEqProofs only [A8,AX,AZ,EB,AU,AL,AO,AJ,BA,AR,AC,AA,AY,BS,BB,BL,BV,BR,AB,List.map_cons,List.map_nil,List.append_nil,↓reduceIte,Nat.reduceEqDiff,Option.getD_some,Bool.not_false,enP,f1,f4,f6,ldV E.g6]
  refine (AI9 G m (JG m) l s _ (MI h1') hf hn).use ?_
  simp -implicitDefEqProofs only [BJ,AZ,AU,A9,AL,AO,AJ,BA,AR,AC,EQ,AA,AY,AQ,BD,A7,EC,DF,↓reduceIte,Nat.reduceEqDiff,Option.getD_some,Bool.not_false,enP,Option.getD_none,f4,stV E.g4 rfl]
  rw [NH (ba:=b4) (by simp -implicitDefEqProofs only [AA,↓reduceIte,Nat.reduceEqDiff,f4]) (ldV (EI E.g4))]
  exact ⟨by simp -implicitDefEqProofs only [AA,↓reduceIte]; unfold AD5 ARA; rw [hz]; rfl,E.hx.set (by omega) _⟩
 ·rintro F H ⟨f4,f5,g4,hx,he⟩
  simp -implicitDefEqProofs only [CJ,D6]
  rw [NH (ba:=b4) f4 (LB g4 rfl)]
  exact ⟨by rw [f5,he,VC (by rw [he]; decide)],hx⟩
set_option maxHeartbeats 2000000 in
theorem AMD (G:Nat→AV) (m:Mo) (l:List Cvr) (s:SM) (hm:MoOk m) (hl : ∀ v∈l,CvOk v) (hn:l.length≤1048576) (h:Hp):PCall (En G) 35 [.agg (DC m),.sl s 4 (l.map D5)] h (.tup [.agg (D5 (LF m l)),.int .i64 (NV m l)]):=by
 refine PCall.res ?_ (AKX m l _)
 refine LU 3 (AGA m l _) ?_
 refine BX (H:=hint [35] []) (enM G) Tryz.func35 rfl (by kernel_rfl) (by kernel_rfl) (Nat.le_of_ble_eq_true (by kernel_rfl)) ?_
 show awp _ _ _ _ _ (EJ _ [.cell 4 28,.tmp 5] _)
 have gm:(h ++ [ABlk.live 2 [DC m]] ++ [ABlk.live 4 [FV]])[h.length]? = some (ABlk.live 2 [DC m]):=C9 (CQ _ _)
 have g4:(h ++ [ABlk.live 2 [DC m]] ++ [ABlk.live 4 [FV]])[(h ++ [ABlk.live 2 [DC m]]).length]? = some (ABlk.live 4 [FV]):=CQ _ _
 have o4:h.length < (h ++ [ABlk.live 2 [DC m]]).length:=by simp
 have hx:ext h (h ++ [ABlk.live 2 [DC m]] ++ [ABlk.live 4 [FV]]):=((ext.rfl' h).app _).app _
 simp -implicitDefEqProofs only [CL,List.contains_cons,List.contains_nil,Nat.reduceBEq,Bool.or_false,A8,AX,AZ,AU,A9,AJ,BA,AR,AC,AA,AY,AQ,BD,A7,FL,EW,BL,BO,BC,↓reduceIte,Nat.reduceEqDiff,Option.getD_some,Bool.not_false,enP,DY,bxM,KN]
 generalize h ++ [ABlk.live 2 [DC m]] ++ [ABlk.live 4 [FV]]=H0 at gm g4 hx ⊢
 generalize (h ++ [ABlk.live 2 [DC m]]).length=b4 at g4 o4 ⊢
 obtain ⟨s1,s2,E⟩:=AXP (emV m) (AQL m) gm g4 o4 hx
 have l4:=CE g4
 simp -implicitDefEqProofs only [CL,List.contains_cons,List.contains_nil,Nat.reduceBEq,Bool.or_false,AU,AJ,BA,AR,AC,AA,AY,BS,BV,BR,AB,List.map_cons,List.map_nil,List.append_nil,↓reduceIte,Option.getD_some,Bool.not_false,DY,ldM gm]
 refine (AOG G m hm _).use ?_
 simp -implicitDefEqProofs only [List.getElem?_cons_zero,List.getElem?_cons_succ,CL,List.contains_cons,List.contains_nil,Nat.reduceBEq,Bool.or_false,A8,AX,BF,AZ,AU,A9,AJ,BA,AR,AC,EQ,AA,AY,AQ,BD,BB,A7,FL,EC,BN,D8,FB,BO,AB,DF,ED,↓reduceIte,Nat.reduceEqDiff,Option.getD_some,Bool.not_false,enP,DY,Option.getD_none,KN,ACA,s1,s2,bne]
 generalize ((H0 ++ [ABlk.live 4 [FV]] ++ [ABlk.live 1 [IZ]]).set H0.length (ABlk.live 4 [D5 (emV m)])).set (H0 ++ [ABlk.live 4 [FV]]).length (ABlk.live 1 [MW (AQL m)])=H1 at E ⊢
 generalize H0.length=b6 at E l4 ⊢
 clear s1 s2 gm g4 hx
 cases h1:(FH m == 0)
 ·have h1':FH m≠0:=by simpa using h1
  have hne:=ABB (l:=l) h1'
  simp -implicitDefEqProofs only [E8,CL,List.contains_cons,List.contains_nil,Nat.reduceBEq,Bool.or_false,A8,AX,BJ,AZ,CJ,DI,AU,A9,AJ,BA,AR,AC,EQ,AA,AY,BB,A7,IR,EC,AB,DF,↓reduceIte,Nat.reduceEqDiff,Option.getD_some,Bool.not_false,enP,DY,Option.getD_none,UH,stZ E.g4 rfl]
  rw [NH (ba:=b4) (by simp -implicitDefEqProofs only [AA,↓reduceIte,Nat.reduceEqDiff]) (LB (EI E.g4) rfl)]
  exact ⟨by simp -implicitDefEqProofs only [AA,↓reduceIte,hne]; rw [VC (by rw [hne]; exact h1')],E.hx.set (by omega) _⟩
 have h1':FH m=0:=by simpa using h1
 have hem:emV m=JG m:=by unfold emV; rw [if_pos h1']
 rw [hem] at E
 simp -implicitDefEqProofs only [CL,List.contains_cons,List.contains_nil,Nat.reduceBEq,Bool.or_false,A8,BM,AX,BK,AZ,DL,AU,A9,AJ,BA,AR,AC,AQ,BD,A7,Option.getD_some,Bool.not_true,Bool.not_false,DY]
 refine FO 0 (fun F H=>F 4 = .ptr b4 0 0∧F 6 = .ptr b6 0 0∧Al h H m (ARA m l) b4 b6∧∀ v∈l,E9 m v=true) (fun F H=>F 4 = .ptr b4 0 0∧F 5 = .int .i64 1∧H[b4]? = some (ABlk.live 4 [FV])∧Sm.ext h H∧NV m l=1) ?_ ?_ ?_
 ·refine CS (fun n F H => ∃ i,n+i=l.length∧F 1 = .sl s 4 (l.map D5)∧F 2 = .ptr h.length 0 0∧F 4 = .ptr b4 0 0∧F 6 = .ptr b6 0 0∧F 9 = .int .i64 (i:Nat)∧Al h H m ((l.take i).foldl ND (JG m)) b4 b6∧∀ v∈l.take i,E9 m v=true) l.length ⟨0,by simp,by simp -implicitDefEqProofs only [AA,BC,BP,↓reduceIte,Nat.reduceEqDiff],by simp -implicitDefEqProofs only [AA,↓reduceIte,Nat.reduceEqDiff],by simp -implicitDefEqProofs only [AA,↓reduceIte,Nat.reduceEqDiff],by simp -implicitDefEqProofs only [AA,↓reduceIte,Nat.reduceEqDiff],by simp -implicitDefEqProofs only [AA,↓reduceIte]; rfl,E,by simp⟩ ?_
  clear E
  rintro n F H ⟨i,hi,f1,f2,f4,f6,f9,E,hf⟩
  simp -implicitDefEqProofs only [CL,List.contains_cons,List.contains_nil,Nat.reduceBEq,Bool.or_false,A8,AX,BF,AZ,AU,A9,AJ,BA,AR,AC,AA,AY,BB,BN,C8,AB,CO,↓reduceIte,Nat.reduceEqDiff,Option.getD_some,Bool.not_false,enP,OY,DY,f1,f9,List.length_map]
  refine CG (fun hc => ?_) (fun hc => ?_)
  ·have hi':i < l.length:=by simpa using hc
   have hs:=AC4 l (JG m) i hi'
   have hc1:=TN (l.take i) (JG m) (MI h1') hf
   generalize (l.take i).foldl ND (JG m)=c at hs hc1 E
   have o4:=E.o4; have o6:=E.o6; have l6:=CE E.g6
   have E2:=E.app [ABlk.live 4 [D5 (AM6 m c l[i])]]
   simp -implicitDefEqProofs only [A8,BM,BK,AZ]
   refine EG (by kernel_rfl) ?_
   simp -implicitDefEqProofs only [FJ,CL,List.contains_cons,List.contains_nil,Nat.reduceBEq,Bool.or_false,DT,CZ,DV,ET,EN,DN,KU,FP,AN1,AA,AY,BS,BL,BU,D8,AB,List.map_cons,List.map_nil,List.append_nil,↓reduceIte,Nat.reduceEqDiff,Nat.reduceAdd,Option.getD_some,enP,X6,f1,f2,f6,f9,ldM E.gm,ldV E.g6,CW hi',ES V6 PY JQ hi']
   refine ⟨_,fun x=>AOD G m c l[i] hm (NC hc1) (hl _ (List.getElem_mem hi')) _,?_⟩
   try simp -implicitDefEqProofs only [FJ,List.getElem?_cons_zero,List.getElem?_cons_succ,CL,List.contains_cons,List.contains_nil,Nat.reduceBEq,Bool.or_false,DT,CZ,LD,EO,DV,GM,ARR,K8,KU,A8,AX,BF,AZ,AU,A9,AJ,BA,AR,AC,AA,AY,AQ,BD,BB,FL,EC,BN,D8,FB,BO,AB,DF,ED,↓reduceIte,Nat.reduceEqDiff,Nat.reduceAdd,Nat.zero_add,Option.getD_some,Bool.not_false,enP,DY,Option.getD_none,KN,OW,bne]
   cases hv:E9 m l[i]
   ·have h2:NV m [c,l[i]]=1:=SV h1' (by simp) hv
    have z1:((1:Int) == 0)=false:=rfl
    simp -implicitDefEqProofs only [E8,CL,List.contains_cons,List.contains_nil,Nat.reduceBEq,Bool.or_false,A8,AX,BJ,AZ,CJ,D6,KC,EZ,DI,AU,A9,AJ,BA,AR,AC,EQ,AA,AY,BB,A7,IR,EC,AB,DF,↓reduceIte,Nat.reduceEqDiff,Option.getD_some,Bool.not_false,enP,DY,Option.getD_none,h2,z1,UH,f4,stZ E2.g4 rfl]
    exact ⟨trivial,trivial,EI E2.g4,E2.hx.set (by omega) _,SV h1' (List.getElem_mem hi') hv⟩
   ·have h2:NV m [c,l[i]]=0:=AIA hc1 hv
    have h3:AM6 m c l[i]=ND c l[i]:=by unfold AM6; rw [if_pos h2]
    rw [h3] at E2
    have E3:=E2.put6 (ND c l[i])
    have gT:=ldV (CQ H (ABlk.live 4 [D5 (ND c l[i])]))
    have z0:((0:Int) == 0)=true:=rfl
    simp -implicitDefEqProofs only [CL,List.contains_cons,List.contains_nil,Nat.reduceBEq,Bool.or_false,AX,BK,AZ,DU,DZ,DL,AU,A9,AJ,BA,AR,AC,EQ,AA,AY,AQ,BD,BB,A7,BL,EC,BN,AB,DF,CR,↓reduceIte,Nat.reduceEqDiff,Option.getD_some,Bool.not_true,Bool.not_false,enP,DY,Option.getD_none,h2,h3,z0,f6,gT,stV E2.g6 rfl,f9,CB (show i < 9223372036854775807 by omega)]
    refine ⟨n - 1,by omega,i+1,by omega,f1,f2,f4,trivial,rfl,?_,fun v hv' => ?_⟩
    ·rw [hs]; exact E3
    rw [List.take_succ_eq_append_getElem hi'] at hv'
    rcases List.mem_append.1 hv' with hv' | hv'
    ·exact hf v hv'
    ·simp at hv'; rw [hv']; exact hv
  ·have hi' : ¬ i < l.length:=by simpa using hc
   rw [List.take_of_length_le (by omega)] at hf E
   simp -implicitDefEqProofs only [CU,DR,II,EF,AA,↓reduceIte,Nat.reduceEqDiff]
   exact ⟨f4,f6,E,hf⟩
 ·rintro F H ⟨f4,f6,E,hf⟩
  have hz:NV m l=0:=OT.2 ⟨h1',hf⟩
  have o4:=E.o4
  simp -implicitDefEqProofs only [CL,List.contains_cons,List.contains_nil,Nat.reduceBEq,Bool.or_false,A8,AX,BJ,AZ,EB,AU,A9,AJ,BA,AR,AC,EQ,AA,AY,AQ,BD,A7,BL,EC,AB,DF,↓reduceIte,Nat.reduceEqDiff,Option.getD_some,Bool.not_false,enP,DY,Option.getD_none,f4,f6,ldV E.g6,stV E.g4 rfl]
  rw [NH (ba:=b4) (by simp -implicitDefEqProofs only [AA,↓reduceIte,Nat.reduceEqDiff,f4]) (ldV (EI E.g4))]
  exact ⟨by simp -implicitDefEqProofs only [AA,↓reduceIte]; unfold AD5; rw [hz]; rfl,E.hx.set (by omega) _⟩
 ·rintro F H ⟨f4,f5,g4,hx,he⟩
  simp -implicitDefEqProofs only [CJ,D6]
  rw [NH (ba:=b4) f4 (LB g4 rfl)]
  exact ⟨by rw [f5,he,VC (by rw [he]; decide)],hx⟩
end Go.Proofs.YtocilianjfhifaaGreatDoor.Cov
