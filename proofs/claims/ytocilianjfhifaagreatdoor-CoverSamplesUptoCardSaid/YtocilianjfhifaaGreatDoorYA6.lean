/- Part 6 of the proof (L1, M4, M5, M6, M7, M8, M9, M10, M11, M12); no condition. -/
import Derived.Test.YtocilianjfhifaaGreatDoorYA5
set_option linter.unusedVariables false
namespace Go.Proofs.YtocilianjfhifaaGreatDoor.Cov
open Sm Bins Go.RowKit
def outG {α:Type} (k:Nat) (f:α→List AV) (h:Hp) (ys:List α) (v:AV) (H:Hp):Prop :=
 (ys = []∧v = .sl .nil 0 [])∨(ys≠[]∧∃ o,h.length≤o∧v = .own o 0 ys.length∧H[o]? = some (.live k (ys.map f)))
theorem outG.nil {α:Type} (k:Nat) (f:α→List AV) (h H:Hp):outG k f h [] (.sl .nil 0 []) H := .inl ⟨rfl,rfl⟩
theorem outG.keep {α:Type} {k:Nat} {f:α→List AV} {h H H':Hp} {ys:List α} {v:AV} (ho:outG k f h ys v H) (hk : ∀ b,isB v b→H'[b]? = H[b]?):outG k f h ys v H':=by
 rcases ho with h1 | ⟨h1,o,h2,rfl,h3⟩
 ·exact .inl h1
 ·exact .inr ⟨h1,o,h2,rfl,by rw [hk o rfl]; exact h3⟩
theorem outG.lt {α:Type} {k:Nat} {f:α→List AV} {h H:Hp} {ys:List α} {v:AV} {b:Nat} (ho:outG k f h ys v H) (hb:isB v b):h.length≤b∧b < H.length:=by
 rcases ho with ⟨_,rfl⟩ | ⟨_,o,h2,rfl,h3⟩
 ·exact hb.elim
 ·cases hb; exact ⟨h2,CU h3⟩
theorem outG.app {α:Type} {k:Nat} {f:α→List AV} {h H:Hp} {ys:List α} {v:AV} (ho:outG k f h ys v H) (x:Hp):outG k f h ys v (H ++ x) :=
 ho.keep fun _ hb=>List.getElem?_append_left (ho.lt hb).2
theorem outG.append {P:Program} {t e:TypeId} {α:Type} {k bs:Nat} {f:α→List AV} {h H:Hp} {ys:List α} {v:AV} (ho:outG k f h ys v H) (hu:P.underlying t=some (.slice e)) (hs:szO P e=some k) (hz:VN P e=some k) (hb:NI P e=some bs) (hbs:bs≤4194304) (hl:ys.length < 8388608) (he:ext h H) (y:α) :
  ∃ v' H',GU P true H t t v (.sl .full k [f y])=some (v',H')∧outG k f h (ys ++ [y]) v' H'∧(∀ b x,H[b]? = some x→¬ isB v b→H'[b]? = some x)∧ext h H'∧H.length≤H'.length∧∀ b,isB v' b→b=H.length:=by
 have h1:([f y]:List (List AV))≠[]:=by simp
 rcases ho with ⟨rfl,rfl⟩ | ⟨hne,o,h2,rfl,h3⟩
 ·exact ⟨_,_,TI hu hs hz hb (KA H .full k [f y]) h1 (JO (by simp) hbs),.inr ⟨by simp,H.length,he.le,rfl,by simp⟩,fun b x hb _=>FU hb,he.app _,by simp,fun b hb=>hb.symm⟩
 ·have hc:KC H (.own o 0 ys.length)=some (k,ys.map f):=by
   rw [QB h3 (by simp),List.drop_zero,List.take_of_length_le (by simp)]
  refine ⟨_,_,VL hu hs hz hb hc (KA H .full k [f y]) h1 (JO (by simp; omega) hbs),.inr ⟨by simp,H.length,he.le,by simp,by simp⟩,fun b x hb hn => ?_,(he.set h2 _).app _,by simp,fun b hb=>hb.symm⟩
  have hn' : ¬ o=b:=hn
  refine FU ?_
  rw [List.getElem?_set,if_neg hn']; exact hb
theorem outG.len {P:Program} {t:TypeId} {α:Type} {k:Nat} {f:α→List AV} {h H:Hp} {ys:List α} {v:AV} (ho:outG k f h ys v H) (hl:(∀ m k xs,LQ P t (.sl m k xs)=some (.int .i64 xs.length))∧∀ b off len,LQ P t (.own b off len)=some (.int .i64 len)):LQ P t v=some (.int .i64 ys.length):=by
 rcases ho with ⟨rfl,rfl⟩ | ⟨_,o,_,rfl,_⟩
 ·exact hl.1 _ _ _
 ·exact hl.2 _ _ _
def nm {α:Type} (ys:List α):SM:=match ys with
 | [] => .nil
 | _ => .any
theorem ACB (n:Nat) (h:Hp) (d b off len k:Nat) (xs:List (List AV)) (hn : ¬ b < n) (hb:h[b]? = some (.live k xs)):II n h (d+1) (.own b off len)=if off+len≤xs.length∧(((xs.drop off).take len).map (·.map (II n h d))).all (·.all AV.leaf)=true then .sl .any k (((xs.drop off).take len).map (·.map (II n h d))) else .junk:=by
 rw [II]
 simp only [hn,if_false,hb]
def Frz {α:Type} (f:α→List AV):Prop := ∀ (n:Nat) (h:Hp) (d:Nat) (x:α),(f x).map (II n h (d+1))=f x∧(f x).all AV.leaf=true
theorem AIB {α:Type} {f:α→List AV} (hf:Frz f) (n:Nat) (h:Hp) (d:Nat) (xs:List α):(xs.map f).map (·.map (II n h (d+1)))=xs.map f:=by
 rw [List.map_map]
 exact List.map_congr_left fun x _=>(hf n h d x).1
theorem X4 {α:Type} {f:α→List AV} (hf:Frz f) {n d k:Nat} {h:Hp} {o:Nat} {xs:List α} (hn:n≤o) (ho:h[o]? = some (.live k (xs.map f))):II n h (d+2) (.own o 0 xs.length) = .sl .any k (xs.map f):=by
 rw [ACB n h (d+1) o 0 xs.length k _ (by omega) ho,List.drop_zero,List.take_of_length_le (by simp),AIB hf n h d xs]
 rw [if_pos]
 refine ⟨by simp,?_⟩
 rw [List.all_eq_true]
 intro row hr
 obtain ⟨x,_,rfl⟩:=List.mem_map.1 hr
 exact (hf n h d x).2
theorem RQ {E:Env} {f:FuncId} {args:List AV} {h:Hp} {α:Type} {k:Nat} {enc:α→List AV} (hf:Frz enc) {ys:List α} (hc:ACalls E f args h fun v H=>ext h H∧outG k enc h ys v H):PCall E f args h (.sl (nm ys) k (ys.map enc)):=by
 have h1:ACalls E f args h fun v H=>v=(if ys.length=0 then AV.sl .nil 0 [] else .sl .any k (ys.map enc))∧H=h:=by
  refine ACalls.pure 2 hc ?_
  rintro v H ⟨hex,hout⟩
  refine ⟨hex,?_⟩
  rcases hout with ⟨rfl,rfl⟩ | ⟨hne,o,ho1,rfl,ho⟩
  ·rfl
  ·rw [if_neg (by simpa using hne)]; exact X4 hf ho1 ho
 refine h1.conv ?_
 rintro v H ⟨rfl,rfl⟩
 refine ⟨_,⟨rfl,rfl⟩,?_⟩
 intro g cv hr
 cases ys with
 | nil=>exact APU hr
 | cons y ys=>exact hr
end Go.Proofs.YtocilianjfhifaaGreatDoor.Cov
set_option linter.unusedSimpArgs false
set_option maxRecDepth 8000
namespace Go.Proofs.YtocilianjfhifaaGreatDoor.Cov
open Sm Bins Go.RowKit
def JI (m:Mo) (p:Int):List Bin:=match m.pts[p.toNat]? with
 | some q=>q.bins
 | none => []
def szs (m:Mo) (l:List Int):List Nat:=l.map fun p=>(JI m p).length
def Here (m:Mo) (l:List Int):Prop := ∀ p∈l,0≤p∧p < (m.pts.length:Int)
theorem Here.toNat {m:Mo} {l:List Int} (hh:Here m l) {k:Nat} (hk:k < l.length):(l[k]).toNat < m.pts.length:=by
 have:=hh _ (List.getElem_mem hk); omega
theorem Here.bins {m:Mo} {l:List Int} (hh:Here m l) {k:Nat} (hk:k < l.length):(m.pts[(l[k]).toNat]'(hh.toNat hk)).bins=JI m l[k]:=by
 unfold JI; rw [List.getElem?_eq_getElem (hh.toNat hk)]
theorem Here.ix {m:Mo} {l:List Int} (hh:Here m l) {k:Nat} (hk:k < l.length) (h:Hp) (s:SM):JR 6 h (.sl s 6 (m.pts.map FX)) (.int .i64 l[k])=some (.fptr 6 (m.pts.map FX) (l[k]).toNat 0):=by
 have:=hh _ (List.getElem_mem hk)
 exact AEJ this.1 (by rw [lLm]; exact this.2)
theorem Here.ld {m:Mo} {l:List Int} (hh:Here m l) {k:Nat} (hk:k < l.length) (h:Hp) : ∃ s,DZ Tryz.prog h 54 (.fptr 6 (m.pts.map FX) (l[k]).toNat 5)=some (.sl s 4 ((JI m l[k]).map GM)):=by
 rw [DT P6 (hh.toNat hk),MC,hh.bins hk]
 exact ⟨_,rfl⟩
theorem ATR:Frz encI:=fun _ _ _ _=>⟨rfl,rfl⟩
theorem AGL (h:Hp) (v:Int):FH Tryz.prog false h 57 1 [(0,.int .i64 v)]=some (.sl .full 1 [[.int .i64 v]],h):=by kernel_rfl
def IV (n:Nat):List AV := [.int .i64 (n:Int)]
theorem ATQ:Frz IV:=fun _ _ _ _=>⟨rfl,rfl⟩
theorem encN0 (n:Nat):(IV n)[0]? = some (.int .i64 (n:Int)):=rfl
theorem encI0 (n:Int):(encI n)[0]? = some (.int .i64 n):=rfl
theorem AO2 (m:Mo) (l:List Int) (k:Nat) (hk:k < l.length):szs m (l.take (k+1))=szs m (l.take k) ++ [(JI m l[k]).length]:=by
 unfold szs; rw [List.take_succ_eq_append_getElem hk,List.map_append]; rfl
theorem SQ (G:Nat→AV) (m:Mo) (c:Cr) (h:Hp) (hh:Here m c.pts) (hl:c.pts.length≤1048576):PCall (En G) 167 [.agg (EN m),.agg (F7 c)] h (.sl (nm (szs m c.pts)) 1 ((szs m c.pts).map IV)):=by
 refine RQ ATQ ?_
 refine CB (H:=Hint.none) (enM G) Tryz.func167 rfl (by kernel_rfl) (by kernel_rfl) (nLb (by kernel_rfl)) ?_
 show awp _ _ _ _ _ (EE _ [.tmp 4] _)
 simp -implicitDefEqProofs only [BC,BQ,BA,A8,AY,BB,AO,AQ,AL,BD,AX,AC,AA,A7,AU,BH,JD,BG,AZ,FV,BV,BK,D6,CE,AB,BF,BN,↓reduceIte,Nat.reduceEqDiff,Nat.zero_add,oGs,bNf,enP,JB,J9,bxM,bxC,DC LD,AEZ,lLm]
 have hb0:(h ++ [ABlk.live 2 [EN m]] ++ [ABlk.live 3 [F7 c]])[h.length]? = some (.live 2 [EN m]):=CX (CY _ _)
 refine DR (fun n F H => ∃ k,n+k=c.pts.length∧F 2 = .ptr h.length 0 0∧F 9 = .sl c.pm 1 (c.pts.map encI)∧F 10 = .int .i64 c.pts.length∧F 11 = .int .i64 (k:Nat)∧H[h.length]? = some (.live 2 [EN m])∧ext h H∧(∀ b,isB (F 5) b→h.length < b)∧outG 1 IV h (szs m (c.pts.take k)) (F 5) H) c.pts.length ⟨0,by simp,by simp -implicitDefEqProofs only [AA,↓reduceIte,Nat.reduceEqDiff],by simp -implicitDefEqProofs only [AA,↓reduceIte,Nat.reduceEqDiff],by simp -implicitDefEqProofs only [AA,↓reduceIte,Nat.reduceEqDiff],by simp -implicitDefEqProofs only [AA,↓reduceIte]; rfl,hb0,((ext.rfl' h).app _).app _,fun b hb=>hb.elim,outG.nil _ _ _ _⟩ ?_
 rintro n F H ⟨k,hk,f2,f9,f10,f11,hb,he,hlt,ho⟩
 simp -implicitDefEqProofs only [BC,BA,BI,A8,AY,BB,AO,AQ,AL,BD,AX,AC,AA,A7,BR,AB,DF,↓reduceIte,oGs,bNf,enP,f10,f11]
 refine CW (fun hc => ?_) (fun hc => ?_)
 ·have hk':k < c.pts.length:=by simpa using hc
  have lm:DZ Tryz.prog H 22 (.ptr h.length 0 0)=some (.sl m.pm 6 (m.pts.map FX)):=by rw [DJ TS hb (row:=EN m) rfl,OO]
  obtain ⟨s,ls⟩:=hh.ld hk' H
  have hzl:(szs m (c.pts.take k)).length < 8388608:=by unfold szs; simp; omega
  obtain ⟨v',H',ha,ho',hkeep,he',hle,hb'⟩:=ho.append TY sz3 XE WX (by omega) hzl he (JI m c.pts[k]).length
  simp -implicitDefEqProofs only [FT,F6,BC,BQ,BA,BO,A8,AY,BB,AO,AQ,AL,BD,AX,AC,AA,A7,BG,AZ,ES,BV,BK,CG,D6,IJ,CE,AB,↓reduceIte,Nat.reduceEqDiff,Nat.add_zero,Nat.zero_add,oGs,bNf,enP,PY,IX,Q9,IW,JH,f2,f9,f11,D5 hk',DT ag3 hk',encI0,lm,hh.ix hk',ls,lLm,AGL]
  refine KJ (v:=v') (h:=H') (by rw [show [[AV.int .i64 ((JI m c.pts[k]).length:Int)]] = [IV (JI m c.pts[k]).length] from rfl,ha]) ?_
  simp -implicitDefEqProofs only [BA,A8,EF,ER,AY,BB,AO,AQ,AL,BD,AX,AC,AA,A7,AU,BH,BG,AZ,BR,AB,DI,↓reduceIte,Nat.reduceEqDiff,oGs,bNf,enP,f11,wrap_succ (show k < 9223372036854775807 by omega)]
  refine ⟨n - 1,by omega,k+1,by omega,f2,f9,f10,rfl,hkeep _ _ hb (fun e=>by have:=hlt _ e; omega),he',fun b hbb => ?_,?_⟩
  ·have:=hb' b hbb; have:=CU hb; omega
  ·rw [AO2 m c.pts k hk']; exact ho'
 ·have hk' : ¬ k < c.pts.length:=by simpa using hc
  rw [List.take_of_length_le (by omega)] at ho
  simp -implicitDefEqProofs only [BC,BA,BL,DL,A8,EC,EY,EW,CJ,AY,BB,AO,AQ,AL,BD,AX,AC,AA,A7,BG,AZ,↓reduceIte,Nat.reduceEqDiff,oGs,bNf]
  exact ⟨he,ho⟩
def IC (l:List Nat):Nat:=l.foldl (· * ·) 1
theorem WJ (l:List Nat) (k:Nat) (hk:k < l.length):IC (l.take (k+1))=IC (l.take k) * l[k]:=by
 unfold IC; rw [List.take_succ_eq_append_getElem hk,List.foldl_append]; rfl
theorem APL (l:List Nat) (k:Nat) (h : ∀ n∈l,n≤64) (hk:l.length≤k):IC l≤64 ^ k:=by
 have gen : ∀ (l:List Nat) (a:Nat) (j:Nat),(∀ n∈l,n≤64)→a≤64 ^ j→l.foldl (· * ·) a≤64 ^ (j+l.length):=by
  intro l
  induction l with
  | nil=>intro a j _ ha; exact ha
  | cons x l ih =>
    intro a j hl ha
    rw [List.foldl_cons,List.length_cons,show j+(l.length+1)=(j+1)+l.length by omega]
    refine ih _ _ (fun n hn=>hl n (by simp [hn])) ?_
    rw [Nat.pow_succ]
    exact Nat.mul_le_mul ha (hl x (by simp))
 have:=gen l 1 0 h (by simp)
 rw [Nat.zero_add] at this
 exact Nat.le_trans this (Nat.pow_le_pow_right (by omega) hk)
theorem ABW (l:List Nat) (k:Nat) (h : ∀ n∈l,1≤n):IC (l.take k)≤IC l:=by
 have gen : ∀ (l:List Nat) (a:Nat),(∀ n∈l,1≤n)→a≤l.foldl (· * ·) a:=by
  intro l
  induction l with
  | nil=>intro a _; exact Nat.le_refl _
  | cons x l ih =>
    intro a hl
    rw [List.foldl_cons]
    refine Nat.le_trans ?_ (ih _ (fun n hn=>hl n (by simp [hn])))
    exact Nat.le_mul_of_pos_right a (hl x (by simp))
 have h2:IC l=(l.drop k).foldl (· * ·) (IC (l.take k)):=by
  unfold IC
  conv=>lhs; rw [← List.take_append_drop k l,List.foldl_append]
 rw [h2]
 exact gen _ _ (fun n hn=>h n (List.mem_of_mem_drop hn))
theorem SY (G:Nat→AV) (l:List Nat) (s:SM) (h:Hp) (hl : ∀ n∈l,n≤64) (hk:l.length≤4):PCall (En G) 180 [.sl s 1 (l.map IV)] h (.int .i64 (IC l)):=by
 refine CB (H:=Hint.none) (enM G) Tryz.func180 rfl (by kernel_rfl) (by kernel_rfl) (nLb (by kernel_rfl)) ?_
 show awp _ _ _ _ _ (EE _ [.tmp 2] _)
 simp -implicitDefEqProofs only [BC,BQ,BA,A8,AY,BB,AO,AQ,AL,BD,AX,AC,AA,A7,AU,BH,BG,AZ,D6,AB,BF,↓reduceIte,Nat.reduceEqDiff,oGs,bNf,enP,JB,lLm]
 have hp : ∀ k,IC (l.take k)≤16777216:=fun k=>by
  have:=APL (l.take k) 4 (fun n hn=>hl n (List.mem_of_mem_take hn)) (by rw [List.length_take]; omega)
  simpa using this
 refine DR (fun n F H => ∃ k,n+k=l.length∧F 3 = .int .i64 (IC (l.take k))∧F 6 = .sl s 1 (l.map IV)∧F 7 = .int .i64 l.length∧F 8 = .int .i64 (k:Nat)∧H=h) l.length ⟨0,by simp,by simp -implicitDefEqProofs only [AA,↓reduceIte,Nat.reduceEqDiff]; rfl,by simp -implicitDefEqProofs only [AA,↓reduceIte,Nat.reduceEqDiff],by simp -implicitDefEqProofs only [AA,↓reduceIte,Nat.reduceEqDiff],by simp -implicitDefEqProofs only [AA,↓reduceIte]; rfl,rfl⟩ ?_
 rintro n F H ⟨k,hk,f3,f6,f7,f8,rfl⟩
 simp -implicitDefEqProofs only [BC,BA,BI,A8,AY,BB,AO,AQ,AL,BD,AX,AC,AA,A7,BR,AB,DF,↓reduceIte,oGs,bNf,enP,f7,f8]
 refine CW (fun hc => ?_) (fun hc => ?_)
 ·have hk':k < l.length:=by simpa using hc
  have h1:=hp (k+1)
  rw [WJ l k hk'] at h1
  have hw:IntKind.i64.wrap ((IC (l.take k):Int) * (l[k]:Int))=((IC (l.take (k+1)):Nat):Int):=by
   rw [WJ l k hk',← Int.natCast_mul,LU (by omega)]
  simp -implicitDefEqProofs only [BC,BQ,BA,BO,A8,EF,ER,AY,BB,AO,AQ,AL,BD,AX,AC,AA,A7,AU,BH,BG,AZ,BV,BR,CG,AB,DI,TG,↓reduceIte,Nat.reduceEqDiff,oGs,bNf,enP,JH,f3,f6,f8,D5 hk',DT ag3 hk',encN0,hw,wrap_succ (show k < 9223372036854775807 by omega)]
  exact ⟨n - 1,by omega,k+1,by omega,rfl,trivial,f7,rfl,trivial⟩
 ·have hk' : ¬ k < l.length:=by simpa using hc
  rw [List.take_of_length_le (by omega)] at f3
  simp -implicitDefEqProofs only [BC,BA,BL,DL,A8,EC,EY,EW,CJ,AY,BB,AO,AQ,AL,BD,AX,AC,AA,A7,BG,AZ,↓reduceIte,Nat.reduceEqDiff,oGs,bNf,f3]
  exact ⟨trivial,trivial⟩
def MS:List Nat→List Int→Bool
 | [],[]=>true
 | n :: ns,x :: xs=>decide (0≤x) && decide (x < (n:Int)) && MS ns xs
 | _,_=>false
theorem AP8 (ns:List Nat):MS ns []=(ns.length == 0):=by cases ns <;> rfl
theorem RS : ∀ {ns:List Nat} {xs:List Int},MS ns xs=true→ns.length=xs.length
 | [],[],_=>rfl
 | n :: ns,x :: xs,h=>by
   simp only [MS,Bool.and_eq_true] at h
   simp [RS h.2]
 | [],_ :: _,h=>by cases h
 | _ :: _,[],h=>by cases h
theorem inside_prog (G:Nat→AV) (ns:List Nat) (xs:List Int) (s t:SM) (h:Hp) (hn:ns.length≤1048576):PCall (En G) 182 [.sl s 1 (ns.map IV),.sl t 1 (xs.map encI)] h (.bool (MS ns xs)):=by
 refine CB (H:=Hint.none) (enM G) Tryz.func182 rfl (by kernel_rfl) (by kernel_rfl) (nLb (by kernel_rfl)) ?_
 show awp _ _ _ _ _ (EE _ [.tmp 4] _)
 simp -implicitDefEqProofs only [BC,BQ,BA,A8,AY,BB,AO,AQ,AL,BD,AX,AC,AA,A7,AU,BH,BM,BG,AZ,D6,AB,BF,BN,↓reduceIte,Nat.reduceEqDiff,oGs,bNf,enP,JB,lLm]
 refine DR (fun n F H => ∃ k,n+k=xs.length∧k≤ns.length∧F 0 = .sl s 1 (ns.map IV)∧F 1 = .sl t 1 (xs.map encI)∧F 7 = .sl t 1 (xs.map encI)∧F 8 = .int .i64 xs.length∧F 9 = .int .i64 (k:Nat)∧H=h∧MS ns xs=MS (ns.drop k) (xs.drop k)) xs.length ⟨0,by simp,by simp,by simp -implicitDefEqProofs only [AA,BF,↓reduceIte,Nat.reduceEqDiff],by simp -implicitDefEqProofs only [AA,BF,BN,↓reduceIte,Nat.reduceEqDiff],by simp -implicitDefEqProofs only [AA,↓reduceIte,Nat.reduceEqDiff],by simp -implicitDefEqProofs only [AA,↓reduceIte,Nat.reduceEqDiff],by simp -implicitDefEqProofs only [AA,↓reduceIte]; rfl,rfl,rfl⟩ ?_
 rintro n F H ⟨k,hk,hkn,f0,f1,f7,f8,f9,rfl,hi⟩
 simp -implicitDefEqProofs only [BC,BA,BI,A8,AY,BB,AO,AQ,AL,BD,AX,AC,AA,A7,BR,AB,DF,↓reduceIte,oGs,bNf,enP,f8,f9]
 refine CW (fun hc => ?_) (fun hc => ?_)
 ·have hk':k < xs.length:=by simpa using hc
  rw [List.drop_eq_getElem_cons hk'] at hi
  simp -implicitDefEqProofs only [BC,BQ,BA,BO,A8,AY,BB,BJ,BP,CO,AO,AQ,AL,BD,AX,AC,AA,A7,BG,AZ,BV,BR,CG,D6,AB,GZ,↓reduceIte,Nat.reduceEqDiff,oGs,bNf,enP,JH,JB,f0,f7,f9,D5 hk',DT ag3 hk',encI0,lLm]
  refine G5 (fun ha => ?_) (fun ha => ?_)
  ·simp -implicitDefEqProofs only [BC,BA,BL,BI,A8,CP,D8,FB,CJ,C9,AY,BB,BJ,BP,CO,FK,AO,AQ,AL,BD,AX,AC,AA,EQ,A7,AU,BM,BG,AZ,CQ,DN,↓reduceIte,Nat.reduceEqDiff,oGs,bNf,ha]
   have:ns.length≤k:=by simp at ha; omega
   rw [List.drop_eq_nil_of_le this] at hi
   exact ⟨by rw [hi]; rfl,trivial⟩
  have hkn':k < ns.length:=by simp at ha; omega
  rw [List.drop_eq_getElem_cons hkn'] at hi
  simp -implicitDefEqProofs only [AY,BJ,BP,CO,EK,AO,AQ,AL,BD,AX,AC,AA,A7,AU,BH,BM,BG,CQ,DK,BR,AB,DF,↓reduceIte,Nat.reduceEqDiff,oGs,bNf,enP,ha]
  refine G5 (fun hb => ?_) (fun hb => ?_)
  ·simp -implicitDefEqProofs only [BC,BA,BL,BI,A8,CP,D8,FB,CJ,C9,AY,BB,BJ,BP,CO,FK,AO,AQ,AL,BD,AX,AC,AA,EQ,A7,AU,BM,AZ,CQ,DN,↓reduceIte,Nat.reduceEqDiff,oGs,bNf,hb]
   have:decide (0≤xs[k])=false:=by simp at hb ⊢; omega
   exact ⟨by rw [hi]; unfold MS; rw [this]; rfl,trivial⟩
  have h0:decide (0≤xs[k])=true:=by simp at hb ⊢; omega
  simp -implicitDefEqProofs only [BI,A8,AY,BB,BJ,BP,CO,EK,AO,AQ,AL,BD,AX,AC,AA,A7,AU,BM,BG,CQ,DK,BV,BR,CG,AB,GZ,↓reduceIte,Nat.reduceEqDiff,oGs,bNf,enP,JH,hb,f0,D5 hkn',DT ag3 hkn',encN0]
  refine CW (fun hd => ?_) (fun hd => ?_)
  ·simp -implicitDefEqProofs only [BC,BA,BL,A8,CP,D8,FB,CJ,AY,BB,AO,AQ,AL,BD,AX,AC,AA,AU,BM,AZ,↓reduceIte,oGs,bNf]
   have:decide (xs[k] < (ns[k]:Int))=false:=by simp at hd ⊢; omega
   exact ⟨by rw [hi]; unfold MS; rw [this,h0]; rfl,trivial⟩
  have h1:decide (xs[k] < (ns[k]:Int))=true:=by simp at hd ⊢; omega
  simp -implicitDefEqProofs only [BA,BO,A8,EF,ER,AY,BB,AO,AQ,AL,BD,AX,AC,AA,A7,AU,BH,BG,BR,AB,DI,↓reduceIte,Nat.reduceEqDiff,oGs,bNf,enP,f9,wrap_succ (show k < 9223372036854775807 by omega)]
  refine ⟨n - 1,by omega,k+1,by omega,by omega,f0,f1,f7,f8,rfl,trivial,?_⟩
  rw [hi]
  conv=>lhs; unfold MS
  rw [h0,h1]; rfl
 ·have hk' : ¬ k < xs.length:=by simpa using hc
  simp -implicitDefEqProofs only [BC,BA,BL,DL,A8,EC,EY,EW,CJ,AY,BB,AO,AQ,AL,BD,AX,AC,AA,A7,BG,AZ,BR,D6,AB,DY,↓reduceIte,Nat.reduceEqDiff,oGs,bNf,enP,JB,f0,f1,lLm]
  refine ⟨?_,trivial⟩
  rw [hi,List.drop_eq_nil_of_le (show xs.length≤k by omega),AP8,List.length_drop]
  congr 1
  rw [Bool.eq_iff_iff]; simp; omega
theorem AH9 (G:Nat→AV) (xs:List Is) (m:SM) (fid:FuncId) (caps:List AV) (p:Is→Bool) (h:Hp) (hl:xs.length≤1099511627776)
  (hf : ∀ r,PCall (En G) fid (.sl r.m 1 (r.l.map encI) :: caps) h (.bool (p r))) :
  PCall (En G) 183 [.sl m 1 (xs.map encL),.fn (.func fid) [] caps] h (.int .i64 (match xs.findIdx? p with | some i=>(i:Int) | none => -1)):=by
 refine CB (H:=Hint.none) (enM G) Tryz.func183 rfl (by kernel_rfl) (by kernel_rfl) (nLb (by kernel_rfl)) ?_
 show awp _ _ _ _ _ (EE _ [.tmp 4] _)
 simp -implicitDefEqProofs only [BC,BQ,BA,A8,AY,BB,AO,AQ,AL,BD,AX,AC,AA,A7,AU,BH,BG,AZ,D6,AB,BF,↓reduceIte,Nat.reduceEqDiff,oGs,bNf,enP,TA,lLm]
 refine DR (fun n F H => ∃ k,n+k=xs.length∧F 0 = .sl m 1 (xs.map encL)∧F 1 = .fn (.func fid) [] caps∧F 7 = .int .i64 xs.length∧F 8 = .int .i64 (k:Nat)∧H=h∧(xs.take k).all (fun r => !p r)=true) xs.length ⟨0,by simp,rfl,rfl,rfl,rfl,rfl,rfl⟩ ?_
 rintro n F H ⟨k,hk,f0,f1,f7,f8,rfl,hin⟩
 simp -implicitDefEqProofs only [BC,BA,BI,A8,AY,BB,AO,AQ,AL,BD,AX,AC,AA,A7,BR,AB,DF,↓reduceIte,oGs,bNf,enP,f0,f1,f7,f8,lLm]
 refine CW (fun hc => ?_) (fun hc => ?_)
 ·have hc':k < xs.length:=by simpa using hc
  simp -implicitDefEqProofs only [BC,BQ,BA,BO,A8,AY,BB,AO,AQ,AL,BD,AX,AC,AA,A7,BG,AZ,BV,CG,BZ,BU,AB,lMc,lMn,List.nil_append,List.cons_append,↓reduceIte,Nat.reduceEqDiff,oGs,bNf,enP,NH,f0,f1,f7,f8,D5 hc',DT LD hc',NV]
  refine (hf _).use ?_
  simp -implicitDefEqProofs only [BI,A8,BB,AC,AA,A7,↓reduceIte]
  refine CW (fun hb => ?_) (fun hb => ?_)
  ·simp -implicitDefEqProofs only [BC,BA,BL,A8,CP,D8,FB,CJ,AY,BB,AO,AQ,AL,BD,AX,AC,AA,A7,BG,AZ,↓reduceIte,Nat.reduceEqDiff,oGs,bNf]
   refine ⟨?_,trivial⟩
   rw [List.findIdx?_eq_some_iff_getElem.2 ⟨hc',hb,fun j hj=>by
    rw [List.all_eq_true] at hin
    have:=hin xs[j] (by rw [List.mem_take_iff_getElem]; exact ⟨j,by omega,rfl⟩)
    simpa using this⟩]
  ·simp -implicitDefEqProofs only [BA,BO,A8,EF,ER,AY,BB,AO,AQ,AL,BD,AX,AC,AA,A7,AU,BH,BG,BR,AB,DI,↓reduceIte,Nat.reduceEqDiff,oGs,bNf,enP,f8,wrap_succ (show k < 9223372036854775807 by omega)]
   refine ⟨n - 1,by omega,k+1,by omega,f0,f1,f7,rfl,trivial,?_⟩
   rw [List.take_succ_eq_append_getElem hc',List.all_append,hin]
   simp only [List.all_cons,List.all_nil,hb]; rfl
 ·have hc' : ¬ k < xs.length:=by simpa using hc
  simp -implicitDefEqProofs only [BC,BA,BL,DL,A8,EC,EY,EW,CJ,AY,BB,AO,AQ,AL,BD,AX,AC,AA,AU,BH,AZ,↓reduceIte,oGs,bNf]
  refine ⟨?_,trivial⟩
  rw [List.take_of_length_le (by omega)] at hin
  rw [List.findIdx?_eq_none_iff.2 (by simpa using hin)]
theorem UU (G:Nat→AV) (xs:List Is) (m:SM) (fid:FuncId) (caps:List AV) (p:Is→Bool) (h:Hp) (hl:xs.length≤1099511627776)
  (hf : ∀ r,PCall (En G) fid (.sl r.m 1 (r.l.map encI) :: caps) h (.bool (p r))) :
  PCall (En G) 133 [.sl m 1 (xs.map encL),.fn (.func fid) [] caps] h (.bool (xs.any p)):=by
 refine CB (H:=Hint.none) (enM G) Tryz.func133 rfl (by kernel_rfl) (by kernel_rfl) (nLb (by kernel_rfl)) ?_
 show awp _ _ _ _ _ (EE _ [.tmp 4] _)
 simp -implicitDefEqProofs only [BC,BA,A8,AY,BB,AO,AQ,AL,BD,AX,AC,AA,A7,AU,BX,BM,BG,AZ,BZ,BU,BF,BN,lMc,lMn,lAn,↓reduceIte,Nat.reduceEqDiff,oGs,bNf,enP]
 refine (AH9 G xs m fid caps p h hl hf).use ?_
 simp -implicitDefEqProofs only [BL,A8,CJ,AY,BB,AO,AQ,AL,BD,AX,AC,AA,A7,AU,BH,AZ,BR,AB,GZ,↓reduceIte,oGs,bNf,enP]
 refine ⟨?_,trivial⟩
 cases hx:xs.findIdx? p with
 | some i =>
   obtain ⟨h1,h2,_⟩:=List.findIdx?_eq_some_iff_getElem.1 hx
   have:xs.any p=true:=List.any_eq_true.2 ⟨xs[i],by simp,h2⟩
   simp [this]
 | none =>
   have:xs.any p=false:=by
    rw [List.findIdx?_eq_none_iff] at hx
    rw [List.any_eq_false]; intro x hx2; simp [hx x hx2]
   simp [this]
theorem AFQ (G:Nat→AV) (ns:List Nat) (s:SM) (b:Nat) (r:Is) (h:Hp) (hb:h[b]? = some (.live 1 [[.sl s 1 (ns.map IV)]])) (hn:ns.length≤1048576) :
  PCall (En G) 181 [.sl r.m 1 (r.l.map encI),.ptr b 0 0] h (.bool (!MS ns r.l)):=by
 refine CB (H:=Hint.none) (enM G) Tryz.func181 rfl (by kernel_rfl) (by kernel_rfl) (nLb (by kernel_rfl)) ?_
 show awp _ _ _ _ _ (EE _ [.tmp 3] _)
 simp -implicitDefEqProofs only [BC,BA,A8,AY,BB,AO,AQ,AL,BD,AX,AC,AA,A7,AU,BX,BM,BG,AZ,BV,BZ,BU,AB,BF,BN,lMc,lMn,lAn,↓reduceIte,Nat.reduceEqDiff,oGs,bNf,enP,JP LD hb]
 refine (inside_prog G ns r.l s r.m h hn).use ?_
 simp -implicitDefEqProofs only [BL,A8,CJ,AY,BB,AO,AQ,AL,BD,AX,AC,AA,A7,AZ,G6,AB,EX,↓reduceIte,oGs,bNf]
 exact ⟨trivial,trivial⟩
def UL (n:Nat):Option Int→List Int→Bool
 | _,[]=>true
 | o,p :: ps=>(decide (0≤p) && decide (p < (n:Int)) && (match o with | some q=>decide (q < p) | none=>true)) && UL n (some p) ps
def prev (l:List Int) (k:Nat):Option Int:=match k with
 | 0=>none
 | k+1=>l[k]?
theorem AEN (n:Nat) (l:List Int) (k:Nat) (hk:k < l.length):UL n (prev l k) (l.drop k)=((decide (0≤l[k]) && decide (l[k] < (n:Int)) && (match prev l k with | some q=>decide (q < l[k]) | none=>true)) && UL n (prev l (k+1)) (l.drop (k+1))):=by
 rw [List.drop_eq_getElem_cons hk]
 have:prev l (k+1)=some l[k]:=by unfold prev; exact List.getElem?_eq_getElem hk
 rw [this]; rfl
theorem VC {m:Mo} : ∀ {l:List Int} {o:Option Int},UL m.pts.length o l=true→Here m l
 | [],_,_=>fun p hp=>by cases hp
 | x :: l,o,h=>by
   simp only [UL,Bool.and_eq_true,decide_eq_true_eq] at h
   intro p hp
   cases List.mem_cons.1 hp with
   | inl e=>subst e; exact ⟨h.1.1.1,h.1.1.2⟩
   | inr e=>exact VC h.2 p e
def H8 (m:Mo) (c:Cr):Int :=
 if G8 c.name=false then 7 else if c.pts.length < 2∨4 < c.pts.length then 1 else if UL m.pts.length none c.pts=false then 1 else
  if 256 < IC (szs m c.pts)∨256 < c.excl.length then 2 else if (c.excl.any fun x => !MS (szs m c.pts) x.l) then 1 else 0
structure CrOk (c:Cr):Prop where
 name:c.name.size≤1048576
 pts:c.pts.length≤1048576
 excl:c.excl.length≤1048576
 each : ∀ x∈c.excl,x.l.length≤1048576
def Full (m:Mo):Prop := ∀ p∈m.pts,1≤p.bins.length∧p.bins.length≤64
theorem Full.szs {m:Mo} {l:List Int} (hf:Full m) (hh:Here m l) : ∀ n∈szs m l,1≤n∧n≤64:=by
 intro n hn
 obtain ⟨p,hp,rfl⟩:=List.mem_map.1 hn
 obtain ⟨h0,h1⟩:=hh p hp
 have hlt:p.toNat < m.pts.length:=by omega
 have:JI m p=(m.pts[p.toNat]).bins:=by unfold JI; rw [List.getElem?_eq_getElem hlt]
 rw [this]
 exact hf _ (List.getElem_mem hlt)
theorem A0X (h:Hp):J3 Tryz.prog h 57=some (.ptr h.length 0 0,h ++ [.live 1 [[.sl .nil 0 []]]]):=JV (row := [.sl .nil 0 []]) (by kernel_rfl)
theorem ldM {h:Hp} {b:Nat} {m:Mo} (hb:h[b]? = some (.live 2 [EN m])):DZ Tryz.prog h 25 (.ptr b 0 0)=some (.agg (EN m)):=by
 rw [IY AW6 AO3 hb rfl (by rw [AQT]; exact Nat.le_refl 2)]; rfl
theorem ldC {h:Hp} {b:Nat} {c:Cr} (hb:h[b]? = some (.live 3 [F7 c])):DZ Tryz.prog h 71 (.ptr b 0 0)=some (.agg (F7 c)):=by
 rw [IY AAX XK hb rfl (by rw [JX]; exact Nat.le_refl 3)]; rfl
theorem AKO (G:Nat→AV) (hG:GOk G) (m:Mo) (c:Cr) (hc:CrOk c) (hf:Full m) (h:Hp):PCall (En G) 130 [.agg (EN m),.agg (F7 c)] h (.int .i64 (H8 m c)):=by
 refine ACalls.pure0 rfl ?_
 have hc1:=hc.name
 have hc2:=hc.pts
 have hc3:=hc.excl
 refine CB (H:=Hint.none) (enM G) Tryz.func130 rfl (by kernel_rfl) (by kernel_rfl) (nLb (by kernel_rfl)) ?_
 show awp _ _ _ _ _ (EE _ [.tmp 4] _)
 have gm:(h ++ [ABlk.live 2 [EN m]] ++ [ABlk.live 3 [F7 c]])[h.length]? = some (.live 2 [EN m]):=CX (CY _ _)
 have gc:(h ++ [ABlk.live 2 [EN m]] ++ [ABlk.live 3 [F7 c]])[(h ++ [ABlk.live 2 [EN m]]).length]? = some (.live 3 [F7 c]):=CY _ _
 have hx : ∃ x,h ++ [ABlk.live 2 [EN m]] ++ [ABlk.live 3 [F7 c]]=h ++ x:=⟨_,List.append_assoc _ _ _⟩
 have hlt:h.length < (h ++ [ABlk.live 2 [EN m]]).length:=by simp
 simp -implicitDefEqProofs only [BC,BA,A8,AY,BB,AO,AQ,AL,BD,AX,AC,AA,A7,AU,BH,AZ,FV,BV,BK,CE,AB,BF,BN,↓reduceIte,Nat.reduceEqDiff,Nat.add_zero,oGs,bNf,enP,AF4,bxM,bxC]
 generalize h ++ [ABlk.live 2 [EN m]] ++ [ABlk.live 3 [F7 c]]=H at gm gc hx ⊢
 generalize (h ++ [ABlk.live 2 [EN m]]).length=cb at gc hlt ⊢
 have lm:DZ Tryz.prog H 22 (.ptr h.length 0 0)=some (.sl m.pm 6 (m.pts.map FX)):=by rw [DJ TS gm (row:=EN m) rfl,OO]
 have lc0:DZ Tryz.prog H 9 (.ptr cb 0 0)=some (.str c.name):=by rw [DJ ag9 gc (row:=F7 c) rfl,AMO]
 have lc1:DZ Tryz.prog H 57 (.ptr cb 0 1)=some (.sl c.pm 1 (c.pts.map encI)):=by rw [DJ LD gc (row:=F7 c) rfl,AEZ]
 have lc2:DZ Tryz.prog H 26 (.ptr cb 0 2)=some (.sl c.xm 1 (c.excl.map encL)):=by rw [DJ NZ gc (row:=F7 c) rfl,AMN]
 simp -implicitDefEqProofs only [AY,AO,AQ,AL,BD,AX,AC,AA,A7,BX,BZ,BU,AB,lMc,lMn,lAn,↓reduceIte,oGs,bNf,lc0]
 refine (NT G hG.kw c.name _ (by omega)).use ?_
 simp -implicitDefEqProofs only [BI,A8,AY,BB,AO,AQ,AL,BD,AX,AC,AA,A7,G6,AB,EX,↓reduceIte,oGs,bNf]
 cases h1:G8 c.name
 ·simp -implicitDefEqProofs only [BC,BA,BL,A8,CP,CJ,C9,AY,BB,AO,AQ,AL,BD,AX,AC,AA,AU,BH,AZ,↓reduceIte,oGs,bNf]
  exact ⟨by unfold H8; rw [if_pos h1],hx⟩
 have h1' : ¬ G8 c.name=false:=by rw [h1]; decide
 simp -implicitDefEqProofs only [BC,BA,BO,A8,DU,AY,BJ,BP,CO,AO,AQ,AL,BD,AX,AC,AA,A7,AU,BH,BG,BV,BR,BK,D6,AB,DF,↓reduceIte,Nat.reduceEqDiff,Nat.zero_add,oGs,bNt,bNf,enP,JB,J9,lc1,lLm]
 refine G5 (fun h2 => ?_) (fun h2 => ?_)
 ·simp -implicitDefEqProofs only [BC,BA,BL,BI,A8,CP,CJ,C9,AY,BB,BJ,BP,CO,FK,AO,AQ,AL,BD,AX,AC,AA,EQ,A7,AU,BH,BM,AZ,CQ,DN,↓reduceIte,Nat.reduceEqDiff,oGs,bNf,h2]
  exact ⟨by unfold H8; rw [if_neg h1',if_pos (.inl (by simp at h2; omega))],hx⟩
 simp -implicitDefEqProofs only [BI,A8,AY,BB,BJ,BP,CO,EK,AO,AQ,AL,BD,AX,AC,AA,A7,AU,BH,BM,CQ,DK,BV,BR,BK,D6,AB,EZ,↓reduceIte,Nat.reduceEqDiff,Nat.zero_add,oGs,bNf,enP,JB,J9,h2,lc1,lLm]
 refine CW (fun h3 => ?_) (fun h3 => ?_)
 ·simp -implicitDefEqProofs only [BC,BA,BL,A8,CP,CJ,AY,BB,AO,AQ,AL,BD,AX,AC,AA,AU,BH,AZ,↓reduceIte,oGs,bNf]
  exact ⟨by unfold H8; rw [if_neg h1',if_pos (.inr (by simp at h3; omega))],hx⟩
 have h23 : ¬ (c.pts.length < 2∨4 < c.pts.length):=by simp at h2 h3; omega
 simp -implicitDefEqProofs only [BC,BQ,BA,BO,A8,AY,BB,AO,AQ,AL,BD,AX,AC,AA,A7,AU,BH,BG,BV,BK,D6,AB,↓reduceIte,Nat.reduceEqDiff,Nat.zero_add,oGs,bNf,enP,JB,J9,lc1,lLm]
 refine G9 0 (fun F H'=>F 2 = .ptr h.length 0 0∧F 3 = .ptr cb 0 0∧H'=H∧UL m.pts.length none c.pts=true) (fun F H'=>F 4 = .int .i64 1∧H'=H∧UL m.pts.length none c.pts=false) ?_ ?_ ?_
 ·refine DR (fun n F H' => ∃ k,n+k=c.pts.length∧F 2 = .ptr h.length 0 0∧F 3 = .ptr cb 0 0∧F 23 = .sl c.pm 1 (c.pts.map encI)∧F 24 = .int .i64 c.pts.length∧F 25 = .int .i64 (k:Nat)∧H'=H∧UL m.pts.length none c.pts=UL m.pts.length (prev c.pts k) (c.pts.drop k)) c.pts.length ⟨0,by simp,by simp -implicitDefEqProofs only [AA,↓reduceIte,Nat.reduceEqDiff],by simp -implicitDefEqProofs only [AA,↓reduceIte,Nat.reduceEqDiff],by simp -implicitDefEqProofs only [AA,↓reduceIte,Nat.reduceEqDiff],by simp -implicitDefEqProofs only [AA,↓reduceIte,Nat.reduceEqDiff],by simp -implicitDefEqProofs only [AA,↓reduceIte]; rfl,rfl,rfl⟩ ?_
  rintro n F H' ⟨k,hk,f2,f3,f23,f24,f25,rfl,hi⟩
  simp -implicitDefEqProofs only [BC,BA,BI,A8,AY,BB,AO,AQ,AL,BD,AX,AC,AA,A7,BR,AB,DF,↓reduceIte,oGs,bNf,enP,f24,f25]
  refine CW (fun hlt => ?_) (fun hlt => ?_)
  ·have hk':k < c.pts.length:=by simpa using hlt
   rw [AEN _ _ _ hk'] at hi
   simp -implicitDefEqProofs only [BC,BQ,BA,BO,A8,AY,BB,BJ,BP,CO,AO,AQ,AL,BD,AX,AC,AA,A7,AU,BH,BG,AZ,BV,BR,CG,AB,DF,↓reduceIte,Nat.reduceEqDiff,oGs,bNf,enP,JH,f2,f3,f23,f25,D5 hk',DT ag3 hk',encI0]
   refine G5 (fun ha => ?_) (fun ha => ?_)
   ·simp -implicitDefEqProofs only [BC,BA,BL,BI,A8,CP,D8,MR,FB,C9,AY,BB,BJ,BP,CO,FK,QN,AO,AQ,AL,BD,AX,AC,AA,EQ,A7,AU,BH,BM,BG,AZ,CQ,DN,↓reduceIte,Nat.reduceEqDiff,oGs,bNf,ha]
    have:decide (0≤c.pts[k])=false:=by simp at ha ⊢; omega
    exact ⟨trivial,trivial,by rw [hi,this]; rfl⟩
   have ha':decide (0≤c.pts[k])=true:=by simp at ha ⊢; omega
   simp -implicitDefEqProofs only [AY,BJ,BP,CO,EK,AO,AQ,AL,BD,AX,AC,AA,A7,AU,BM,BG,CQ,DK,BV,BR,BK,D6,AB,GZ,↓reduceIte,Nat.reduceEqDiff,Nat.add_zero,oGs,bNf,enP,QI,IX,ha,f2,lm,lLm]
   refine G5 (fun hb => ?_) (fun hb => ?_)
   ·simp -implicitDefEqProofs only [BC,BA,BL,BI,A8,CP,D8,MR,FB,C9,AY,BB,BJ,BP,CO,FK,QN,AO,AQ,AL,BD,AX,AC,AA,EQ,A7,AU,BH,BM,AZ,CQ,DN,↓reduceIte,Nat.reduceEqDiff,oGs,bNf,hb]
    have:decide (c.pts[k] < (m.pts.length:Int))=false:=by simp at hb ⊢; omega
    exact ⟨trivial,trivial,by rw [hi,this,ha']; rfl⟩
   have hb':decide (c.pts[k] < (m.pts.length:Int))=true:=by simp at hb ⊢; omega
   rw [ha',hb'] at hi
   simp only [Bool.true_and] at hi
   cases k with
   | zero =>
     have hz:decide ((((0:Nat):Int)) > 0)=false:=by decide
     simp -implicitDefEqProofs only [BA,BO,BI,A8,EF,ER,DU,AY,BB,BJ,BP,CO,EK,H7,AO,AQ,AL,BD,AX,AC,AA,EQ,A7,AU,BH,BM,BG,CQ,DK,BR,AB,DI,EZ,↓reduceIte,Nat.reduceEqDiff,Nat.zero_add,oGs,bNf,enP,hb,hz,f25,wrap_succ (show 0 < 9223372036854775807 by omega)]
     exact ⟨n - 1,by omega,1,by omega,f2,f3,f23,f24,rfl,trivial,by rw [hi]; rfl⟩
   | succ k =>
     have hz:decide ((((k+1:Nat):Int)) > 0)=true:=by simp
     have hw:IntKind.i64.wrap (((k+1:Nat):Int) - 1)=(k:Int):=by rw [wrap_i64 (by omega) (by omega)]; omega
     have hk2:k < c.pts.length:=by omega
     have hpv:prev c.pts (k+1)=some c.pts[k]:=by unfold prev; exact List.getElem?_eq_getElem hk2
     rw [hpv] at hi
     simp -implicitDefEqProofs only [BI,A8,AY,BB,BJ,BP,CO,FY,EK,AO,AQ,AL,BD,AX,AC,AA,A7,AU,BH,BM,BG,CQ,DN,DK,BV,BR,BK,CG,AB,JQ,IE,EZ,↓reduceIte,Nat.reduceEqDiff,Nat.zero_add,oGs,bNf,enP,JH,J9,hb,hz,f3,lc1,hw,D5 hk2,DT ag3 hk2,encI0]
     refine CW (fun hd => ?_) (fun hd => ?_)
     ·simp -implicitDefEqProofs only [BC,BA,BL,A8,CP,D8,MR,FB,AY,BB,AO,AQ,AL,BD,AX,AC,AA,AU,BH,AZ,↓reduceIte,oGs,bNf]
      have:decide (c.pts[k] < c.pts[k+1])=false:=by simp at hd ⊢; omega
      exact ⟨trivial,trivial,by rw [hi]; simp only [this]; rfl⟩
     ·simp -implicitDefEqProofs only [BA,BO,A8,EF,ER,AY,BB,AO,AQ,AL,BD,AX,AC,AA,A7,AU,BH,BG,BR,AB,DI,↓reduceIte,Nat.reduceEqDiff,oGs,bNf,enP,f25,wrap_succ (show k+1 < 9223372036854775807 by omega)]
      have:decide (c.pts[k] < c.pts[k+1])=true:=by simp at hd ⊢; omega
      exact ⟨n - 1,by omega,k+1+1,by omega,f2,f3,f23,f24,rfl,trivial,by rw [hi]; simp only [this]; rfl⟩
  ·have hk' : ¬ k < c.pts.length:=by simpa using hlt
   simp -implicitDefEqProofs only [DL,EC,KG,EW,AA,↓reduceIte,Nat.reduceEqDiff]
   exact ⟨f2,f3,trivial,by rw [hi,List.drop_eq_nil_of_le (by omega)]; rfl⟩
 ·rintro F H' ⟨f2,f3,rfl,hi⟩
  have hh:=VC hi
  have hi' : ¬ UL m.pts.length none c.pts=false:=by rw [hi]; decide
  simp -implicitDefEqProofs only [BC,BA,A8,EY,AY,AO,AQ,AL,BD,AX,AC,AA,A7,BX,BV,BZ,BU,AB,lMc,lMn,lAn,↓reduceIte,Nat.reduceEqDiff,oGs,bNf,enP,f2,f3,ldM gm,ldC gc]
  refine (SQ G m c _ hh (by omega)).use ?_
  have hsz:(szs m c.pts).length≤4:=by unfold szs; simp; omega
  have hst:=QT (t:=57) (v := .sl .nil 0 []) (u := .sl (nm (szs m c.pts)) 1 ((szs m c.pts).map IV)) ADL (ARU _ _ _) (CY H' (.live 1 [[.sl .nil 0 []]]))
  rw [AFF] at hst
  simp -implicitDefEqProofs only [BC,BQ,BA,A8,AY,BB,AO,AQ,AL,BD,AX,AC,E8,AA,A7,BX,GG,BV,EP,BZ,BU,CE,AB,DW,lMc,lMn,lAn,↓reduceIte,Nat.reduceEqDiff,oGs,bNf,enP,Option.getD_none,A0X,hst,JP LD (CY H' _)]
  refine (SY G _ _ _ (fun n hn=>(hf.szs hh n hn).2) hsz).use ?_
  have hx2 : ∃ x,H' ++ [ABlk.live 1 [[AV.sl (nm (szs m c.pts)) 1 ((szs m c.pts).map IV)]]]=h ++ x:=by
   obtain ⟨x,hx⟩:=hx
   exact ⟨x ++ _,by rw [hx,List.append_assoc]⟩
  have lc2' : ∀ x,DZ Tryz.prog (H' ++ [x]) 26 (.ptr cb 0 2)=some (.sl c.xm 1 (c.excl.map encL)):=fun x=>by rw [DJ NZ (CX gc) (row:=F7 c) rfl,AMN]
  simp -implicitDefEqProofs only [AY,BJ,BP,CO,AO,AQ,AL,BD,AX,AC,AA,A7,AU,BH,BG,BR,AB,EZ,↓reduceIte,oGs,bNf,enP]
  refine G5 (fun ha => ?_) (fun ha => ?_)
  ·simp -implicitDefEqProofs only [BC,BA,BL,BI,A8,CP,D8,CJ,C9,AY,BB,BJ,BP,CO,FK,AO,AQ,AL,BD,AX,AC,AA,EQ,A7,AU,BH,BM,AZ,CQ,DN,↓reduceIte,Nat.reduceEqDiff,oGs,bNf,ha]
   exact ⟨by unfold H8; rw [if_neg h1',if_neg h23,if_neg hi',if_pos (.inl (by simp at ha; omega))],hx2⟩
  simp -implicitDefEqProofs only [BI,A8,AY,BB,BJ,BP,CO,EK,AO,AQ,AL,BD,AX,AC,AA,A7,AU,BH,BM,AZ,CQ,DK,BV,BR,BK,D6,AB,EZ,↓reduceIte,Nat.reduceEqDiff,Nat.zero_add,oGs,bNf,enP,TA,TB,ha,f3,lc2',lLm]
  refine CW (fun hb => ?_) (fun hb => ?_)
  ·simp -implicitDefEqProofs only [BC,BA,BL,A8,CP,D8,CJ,AY,BB,AO,AQ,AL,BD,AX,AC,AA,AU,BH,AZ,↓reduceIte,oGs,bNf]
   exact ⟨by unfold H8; rw [if_neg h1',if_neg h23,if_neg hi',if_pos (.inr (by simp at hb; omega))],hx2⟩
  have hab : ¬ (256 < IC (szs m c.pts)∨256 < c.excl.length):=by simp at ha hb; omega
  simp -implicitDefEqProofs only [BC,BA,AY,AO,AQ,AL,BD,AX,AC,AA,A7,BX,BV,I7,BK,BZ,BU,AB,lMc,lMn,lAn,↓reduceIte,Nat.reduceEqDiff,Nat.zero_add,oGs,bNf,enP,TB,f3,lc2']
  refine (UU G c.excl c.xm 181 _ (fun x => !MS (szs m c.pts) x.l) _ (by omega) fun r=>AFQ G _ _ _ r _ (CY H' _) (by omega)).use ?_
  simp -implicitDefEqProofs only [BI,A8,AY,BB,AO,AQ,AL,BD,AX,AC,AA,A7,AZ,↓reduceIte,oGs,bNf]
  cases he:c.excl.any fun x => !MS (szs m c.pts) x.l
  ·simp -implicitDefEqProofs only [BC,BA,BO,BL,A8,EF,CJ,DU,AY,BB,AO,AQ,AL,BD,AX,AC,AA,AU,BH,AZ,↓reduceIte,oGs,bNf]
   exact ⟨by unfold H8; rw [if_neg h1',if_neg h23,if_neg hi',if_neg hab,he]; rfl,hx2⟩
  ·simp -implicitDefEqProofs only [BC,BA,BL,A8,CP,D8,CJ,C9,AY,BB,AO,AQ,AL,BD,AX,AC,AA,AU,BH,AZ,↓reduceIte,oGs,bNf]
   exact ⟨by unfold H8; rw [if_neg h1',if_neg h23,if_neg hi',if_neg hab,he]; rfl,hx2⟩
 ·rintro F H' ⟨f4,rfl,hi⟩
  simp -implicitDefEqProofs only [CP,D8,CJ,f4]
  exact ⟨by unfold H8; rw [if_neg h1',if_neg h23,if_pos hi],hx⟩
theorem AFG (m:Mo) (l:List Int) (k:Nat) (hk:k < l.length):(szs m l)[k]? = some (JI m l[k]).length:=by
 unfold szs; rw [List.getElem?_map,List.getElem?_eq_getElem hk]; rfl
theorem NF (m:Mo) (l:List Int):(szs m l).length=l.length:=by unfold szs; simp
structure Two (h H:Hp) (m:Mo) (c:Cr) (cb:Nat):Prop where
 gm:H[h.length]? = some (.live 2 [EN m])
 gc:H[cb]? = some (.live 3 [F7 c])
 hx : ∃ x,H=h ++ x
theorem Two.lm {h H:Hp} {m:Mo} {c:Cr} {cb:Nat} (t:Two h H m c cb):DZ Tryz.prog H 22 (.ptr h.length 0 0)=some (.sl m.pm 6 (m.pts.map FX)):=by rw [DJ TS t.gm (row:=EN m) rfl,OO]
theorem Two.l0 {h H:Hp} {m:Mo} {c:Cr} {cb:Nat} (t:Two h H m c cb):DZ Tryz.prog H 9 (.ptr cb 0 0)=some (.str c.name):=by rw [DJ ag9 t.gc (row:=F7 c) rfl,AMO]
theorem Two.l1 {h H:Hp} {m:Mo} {c:Cr} {cb:Nat} (t:Two h H m c cb):DZ Tryz.prog H 57 (.ptr cb 0 1)=some (.sl c.pm 1 (c.pts.map encI)):=by rw [DJ LD t.gc (row:=F7 c) rfl,AEZ]
theorem Two.l2 {h H:Hp} {m:Mo} {c:Cr} {cb:Nat} (t:Two h H m c cb):DZ Tryz.prog H 26 (.ptr cb 0 2)=some (.sl c.xm 1 (c.excl.map encL)):=by rw [DJ NZ t.gc (row:=F7 c) rfl,AMN]
theorem Two.mk' (h:Hp) (m:Mo) (c:Cr):Two h (h ++ [.live 2 [EN m]] ++ [.live 3 [F7 c]]) m c (h ++ [ABlk.live 2 [EN m]]).length:=⟨CX (CY _ _),CY _ _,⟨_,List.append_assoc _ _ _⟩⟩
theorem ZL (G:Nat→AV) (m:Mo) (c:Cr) (h:Hp) (hh:Here m c.pts) (hf:Full m) (hl:c.pts.length≤1048576):PCall (En G) 89 [.agg (EN m),.agg (F7 c)] h (.int .i64 (min (IC (szs m c.pts)) 1000)):=by
 refine ACalls.pure0 rfl ?_
 refine CB (H:=Hint.none) (enM G) Tryz.func89 rfl (by kernel_rfl) (by kernel_rfl) (nLb (by kernel_rfl)) ?_
 show awp _ _ _ _ _ (EE _ [.tmp 4] _)
 have t:=Two.mk' h m c
 simp -implicitDefEqProofs only [BC,BQ,BA,A8,AY,BB,AO,AQ,AL,BD,AX,AC,AA,A7,AU,BH,AZ,FV,CE,BF,BN,↓reduceIte,Nat.reduceEqDiff,oGs,bNf,enP,bxM,bxC]
 generalize h ++ [ABlk.live 2 [EN m]] ++ [ABlk.live 3 [F7 c]]=H at t ⊢
 generalize (h ++ [ABlk.live 2 [EN m]]).length=cb at t ⊢
 have hs:=hf.szs hh
 refine G9 0 (fun F H'=>(F 5 = .int .i64 (IC (szs m c.pts):Nat)∨∃ n:Nat,1000≤n∧n≤IC (szs m c.pts)∧F 5 = .int .i64 n)∧H'=H) (fun _ _=>False) ?_ ?_ (fun _ _ hh=>hh.elim)
 ·refine DR (fun n F H' => ∃ k,n+k=c.pts.length∧F 2 = .ptr h.length 0 0∧F 3 = .ptr cb 0 0∧F 5 = .int .i64 (IC ((szs m c.pts).take k):Nat)∧F 6 = .int .i64 (k:Nat)∧H'=H) c.pts.length ⟨0,by simp,by simp -implicitDefEqProofs only [AA,↓reduceIte,Nat.reduceEqDiff],by simp -implicitDefEqProofs only [AA,↓reduceIte,Nat.reduceEqDiff],by simp -implicitDefEqProofs only [AA,↓reduceIte,Nat.reduceEqDiff]; rfl,by simp -implicitDefEqProofs only [AA,↓reduceIte]; rfl,rfl⟩ ?_
  rintro n F H' ⟨k,hk,f2,f3,f5,f6,rfl⟩
  simp -implicitDefEqProofs only [BC,BA,AY,BJ,BP,CO,AO,AQ,AL,BD,AX,AC,AA,A7,BG,BV,BR,BK,D6,AB,DF,↓reduceIte,Nat.reduceEqDiff,Nat.zero_add,oGs,bNf,enP,JB,J9,f3,f6,t.l1,lLm]
  refine G5 (fun ha => ?_) (fun ha => ?_)
  ·have hk':k < c.pts.length:=by simpa using ha
   simp -implicitDefEqProofs only [BI,A8,AY,BB,BJ,BP,CO,FY,AO,AQ,AL,BD,AX,AC,AA,A7,AU,BH,BM,BG,CQ,DN,BR,AB,DF,↓reduceIte,Nat.reduceEqDiff,oGs,bNf,enP,ha,f5]
   refine CW (fun hb => ?_) (fun hb => ?_)
   ·have hb':IC ((szs m c.pts).take k) < 1000:=by simp at hb; omega
    obtain ⟨s,ls⟩:=hh.ld hk' H'
    have hks:k < (szs m c.pts).length:=by rw [NF]; exact hk'
    have hgt:(szs m c.pts)[k]=(JI m c.pts[k]).length:=H9 (AFG m c.pts k hk')
    have h64:=(hs _ (List.getElem_mem hks)).2
    rw [hgt] at h64
    have hpt:=WJ (szs m c.pts) k hks
    rw [hgt] at hpt
    have hmul:IC ((szs m c.pts).take k) * (JI m c.pts[k]).length≤1000 * 64:=Nat.mul_le_mul (by omega) h64
    have hw:IntKind.i64.wrap ((IC ((szs m c.pts).take k):Int) * ((JI m c.pts[k]).length:Int))=((IC ((szs m c.pts).take (k+1)):Nat):Int):=by
     rw [hpt,← Int.natCast_mul,LU (by omega)]
    simp -implicitDefEqProofs only [BC,BQ,BO,A8]
    refine FD (by kernel_rfl) ?_
    simp -implicitDefEqProofs only [F9,EH,DX,FC,EM,FP,J8,FQ,JA,EG,ED,JK,BA,A8,EF,ER,AY,BB,AO,AQ,AL,BD,AX,AC,AA,A7,AU,BH,BG,AZ,BV,BR,BK,CG,D6,AB,DI,TG,↓reduceIte,Nat.reduceEqDiff,Nat.reduceAdd,Nat.add_zero,Nat.zero_add,oGs,bNf,enP,PY,IX,Q9,IW,JH,J9,f2,f3,f5,f6,t.lm,t.l1,D5 hk',DT ag3 hk',encI0,hh.ix hk',ls,lLm,hw,wrap_succ (show k < 9223372036854775807 by omega)]
    exact ⟨n - 1,by omega,k+1,by omega,trivial,trivial,rfl,rfl,trivial⟩
   ·simp -implicitDefEqProofs only [DL,EC,KG,EW,AA,↓reduceIte,Nat.reduceEqDiff]
    exact ⟨.inr ⟨_,by simp at hb; omega,ABW _ _ (fun n hn=>(hs n hn).1),f5⟩,trivial⟩
  ·have hk' : ¬ k < c.pts.length:=by simpa using ha
   simp -implicitDefEqProofs only [DL,BI,A8,EC,KG,EW,DU,AY,BB,BJ,BP,CO,H7,AO,AQ,AL,BD,AX,AC,AA,EQ,A7,AU,BM,CQ,DK,↓reduceIte,Nat.reduceEqDiff,oGs,bNf,ha]
   refine ⟨.inl ?_,trivial⟩
   rw [List.take_of_length_le (by rw [NF]; omega)] at f5
   exact f5
 ·rintro F H' ⟨f5,rfl⟩
  rcases f5 with f5 | ⟨n,h1,h2,f5⟩
  ·simp -implicitDefEqProofs only [BC,BA,BL,A8,EY,CJ,AY,BB,AO,AQ,AL,BD,AX,AC,AA,A7,AU,BH,BG,AZ,AOU,AB,AJ3,↓reduceIte,oGs,bNf,f5]
   exact ⟨trivial,t.hx⟩
  ·simp -implicitDefEqProofs only [BC,BA,BL,A8,EY,CJ,AY,BB,AO,AQ,AL,BD,AX,AC,AA,A7,AU,BH,BG,AZ,AOU,AB,AJ3,↓reduceIte,oGs,bNf,f5]
   exact ⟨by congr 1; omega,t.hx⟩
def placed (m:Mo) (c:Cr):Bool:=decide (2≤c.pts.length) && decide (c.pts.length≤4) && UL m.pts.length none c.pts
theorem AJW (G:Nat→AV) (m:Mo) (c:Cr) (h:Hp) (hl:c.pts.length≤1048576):PCall (En G) 171 [.agg (EN m),.agg (F7 c)] h (.bool (placed m c)):=by
 refine ACalls.pure0 rfl ?_
 refine CB (H:=Hint.none) (enM G) Tryz.func171 rfl (by kernel_rfl) (by kernel_rfl) (nLb (by kernel_rfl)) ?_
 show awp _ _ _ _ _ (EE _ [.tmp 4] _)
 have t:=Two.mk' h m c
 simp -implicitDefEqProofs only [BC,BA,A8,AY,BB,AO,AQ,AL,BD,AX,AC,AA,A7,AU,BM,AZ,FV,BV,BK,CE,AB,BF,BN,↓reduceIte,Nat.reduceEqDiff,Nat.zero_add,oGs,bNf,enP,J9,bxM,bxC]
 generalize h ++ [ABlk.live 2 [EN m]] ++ [ABlk.live 3 [F7 c]]=H at t ⊢
 generalize (h ++ [ABlk.live 2 [EN m]]).length=cb at t ⊢
 simp -implicitDefEqProofs only [AY,BJ,BP,CO,AO,AQ,AL,BD,AX,AC,AA,A7,AU,BH,BG,BR,D6,AB,DF,↓reduceIte,oGs,bNf,enP,JB,t.l1,lLm]
 refine G5 (fun h2 => ?_) (fun h2 => ?_)
 ·simp -implicitDefEqProofs only [BC,BA,BL,BI,A8,CP,CJ,C9,AY,BB,BJ,BP,CO,FK,AO,AQ,AL,BD,AX,AC,AA,EQ,A7,AU,BM,AZ,CQ,DN,↓reduceIte,Nat.reduceEqDiff,oGs,bNf,h2]
  have:decide (2≤c.pts.length)=false:=by simp at h2 ⊢; omega
  exact ⟨by unfold placed; rw [this]; rfl,t.hx⟩
 have d2:decide (2≤c.pts.length)=true:=by simp at h2 ⊢; omega
 simp -implicitDefEqProofs only [BI,A8,AY,BB,BJ,BP,CO,EK,AO,AQ,AL,BD,AX,AC,AA,A7,AU,BH,BM,CQ,DK,BV,BR,BK,D6,AB,EZ,↓reduceIte,Nat.reduceEqDiff,Nat.zero_add,oGs,bNf,enP,JB,J9,h2,t.l1,lLm]
 refine CW (fun h3 => ?_) (fun h3 => ?_)
 ·simp -implicitDefEqProofs only [BC,BA,BL,A8,CP,CJ,AY,BB,AO,AQ,AL,BD,AX,AC,AA,AU,BM,AZ,↓reduceIte,oGs,bNf]
  have:decide (c.pts.length≤4)=false:=by simp at h3 ⊢; omega
  exact ⟨by unfold placed; rw [this]; simp,t.hx⟩
 have d3:decide (c.pts.length≤4)=true:=by simp at h3 ⊢; omega
 have hpl:placed m c=UL m.pts.length none c.pts:=by unfold placed; rw [d2,d3]; rfl
 rw [hpl]
 simp -implicitDefEqProofs only [BC,BQ,BA,BO,A8,AY,BB,AO,AQ,AL,BD,AX,AC,AU,BH,AZ,oGs,bNf]
 refine DR (fun n F H' => ∃ k,n+k=c.pts.length∧F 2 = .ptr h.length 0 0∧F 3 = .ptr cb 0 0∧F 5 = .int .i64 (k:Nat)∧H'=H∧UL m.pts.length none c.pts=UL m.pts.length (prev c.pts k) (c.pts.drop k)) c.pts.length ⟨0,by simp,by simp -implicitDefEqProofs only [AA,↓reduceIte,Nat.reduceEqDiff],by simp -implicitDefEqProofs only [AA,↓reduceIte,Nat.reduceEqDiff],by simp -implicitDefEqProofs only [AA,↓reduceIte]; rfl,rfl,rfl⟩ ?_
 rintro n F H' ⟨k,hk,f2,f3,f5,rfl,hi⟩
 simp -implicitDefEqProofs only [BC,BA,BI,A8,AY,BB,AO,AQ,AL,BD,AX,AC,AA,A7,BG,BV,BR,BK,D6,AB,DF,↓reduceIte,Nat.reduceEqDiff,Nat.zero_add,oGs,bNf,enP,JB,J9,f3,f5,t.l1,lLm]
 refine CW (fun hlt => ?_) (fun hlt => ?_)
 ·have hk':k < c.pts.length:=by simpa using hlt
  rw [AEN _ _ _ hk'] at hi
  simp -implicitDefEqProofs only [BC,BQ,BO,A8]
  refine FD (by kernel_rfl) ?_
  simp -implicitDefEqProofs only [F9,EH,DX,EM,FI,GK,FP,FQ,JA,EG,ED,CO,AO,AA,A7,AU,BH,BV,BR,BK,CG,AB,DF,↓reduceIte,Nat.reduceEqDiff,Nat.reduceAdd,Nat.zero_add,oGs,enP,JH,J9,f2,f3,f5,t.l1,D5 hk',DT ag3 hk',encI0]
  refine AJB (fun ha => ?_) (fun ha => ?_)
  ·simp -implicitDefEqProofs only [F9,EH,DX,FC,EM,FI,GK,ADH,AW7,FP,I5,BC,BA,BL,BI,A8,CP,D8,FB,CJ,C9,AY,BB,CO,AO,AQ,AL,BD,AX,AC,AA,EQ,A7,AU,BM,AZ,CQ,DN,↓reduceIte,Nat.reduceEqDiff,Nat.reduceAdd,oGs,bNf,ha]
   have:decide (0≤c.pts[k])=false:=by simp at ha ⊢; omega
   exact ⟨by rw [hi,this]; rfl,t.hx⟩
  have ha':decide (0≤c.pts[k])=true:=by simp at ha ⊢; omega
  simp -implicitDefEqProofs only [F9,EH,DX,EM,FI,GK,U2,FP,I5,FQ,JA,EG,ED,JK,CO,AO,AA,A7,AU,BM,CQ,DK,BV,BR,BK,CG,D6,AB,GZ,↓reduceIte,Nat.reduceEqDiff,Nat.reduceAdd,Nat.add_zero,Nat.zero_add,oGs,enP,QI,IX,JH,J9,ha,f2,f3,f5,t.lm,t.l1,D5 hk',DT ag3 hk',encI0,lLm]
  refine AJB (fun hb => ?_) (fun hb => ?_)
  ·simp -implicitDefEqProofs only [F9,EH,DX,FC,EM,FI,GK,ADH,AW7,I5,BC,BA,BL,BI,A8,CP,D8,FB,CJ,C9,AY,BB,CO,AO,AQ,AL,BD,AX,AC,AA,EQ,A7,AU,BM,AZ,CQ,DN,↓reduceIte,Nat.reduceEqDiff,Nat.reduceAdd,oGs,bNf,hb]
   have:decide (c.pts[k] < (m.pts.length:Int))=false:=by simp at hb ⊢; omega
   exact ⟨by rw [hi,this,ha']; rfl,t.hx⟩
  have hb':decide (c.pts[k] < (m.pts.length:Int))=true:=by simp at hb ⊢; omega
  rw [ha',hb'] at hi
  simp only [Bool.true_and] at hi
  cases k with
  | zero =>
    have hz:decide ((((0:Nat):Int)) > 0)=false:=by decide
    simp -implicitDefEqProofs only [F9,EH,DX,FC,EM,FI,GK,U2,AAP,FP,I5,JA,BA,BO,BI,A8,EF,ER,DU,AY,BB,CO,AO,AQ,AL,BD,AX,AC,AA,EQ,A7,AU,BH,BM,BG,AZ,CQ,DK,BR,AB,DI,EZ,↓reduceIte,Nat.reduceEqDiff,Nat.reduceAdd,Nat.zero_add,oGs,bNf,enP,hb,hz,f5,wrap_succ (show 0 < 9223372036854775807 by omega)]
    exact ⟨n - 1,by omega,1,by omega,f2,f3,rfl,trivial,by rw [hi]; rfl⟩
  | succ k =>
    have hz:decide ((((k+1:Nat):Int)) > 0)=true:=by simp
    have hw:IntKind.i64.wrap (((k+1:Nat):Int) - 1)=(k:Int):=by rw [wrap_i64 (by omega) (by omega)]; omega
    have hk2:k < c.pts.length:=by omega
    have hpv:prev c.pts (k+1)=some c.pts[k]:=by unfold prev; exact List.getElem?_eq_getElem hk2
    rw [hpv] at hi
    simp -implicitDefEqProofs only [F9,EH,DX,FC,EM,FI,GK,TQ,U2,FP,I5,FQ,JA,EG,ED,BI,A8,CO,AO,AA,A7,AU,BH,BM,CQ,DN,DK,BV,BR,BK,CG,AB,JQ,IE,EZ,↓reduceIte,Nat.reduceEqDiff,Nat.reduceAdd,Nat.zero_add,oGs,enP,JH,J9,hb,hz,f3,f5,t.l1,hw,D5 hk',D5 hk2,DT ag3 hk',DT ag3 hk2,encI0]
    refine CW (fun hd => ?_) (fun hd => ?_)
    ·simp -implicitDefEqProofs only [BC,BA,BL,A8,CP,D8,FB,CJ,AY,BB,AO,AQ,AL,BD,AX,AC,AA,AU,BM,AZ,↓reduceIte,oGs,bNf]
     have:decide (c.pts[k] < c.pts[k+1])=false:=by simp at hd ⊢; omega
     exact ⟨by rw [hi]; simp only [this]; rfl,t.hx⟩
    ·simp -implicitDefEqProofs only [BA,BO,A8,EF,ER,AY,BB,AO,AQ,AL,BD,AX,AC,AA,A7,AU,BH,BG,AZ,BR,AB,DI,↓reduceIte,Nat.reduceEqDiff,oGs,bNf,enP,f5,wrap_succ (show k+1 < 9223372036854775807 by omega)]
     have:decide (c.pts[k] < c.pts[k+1])=true:=by simp at hd ⊢; omega
     exact ⟨n - 1,by omega,k+1+1,by omega,f2,f3,rfl,trivial,by rw [hi]; simp only [this]; rfl⟩
 ·have hk' : ¬ k < c.pts.length:=by simpa using hlt
  simp -implicitDefEqProofs only [BC,BA,BL,DL,A8,EC,EY,EW,CJ,AY,BB,AO,AQ,AL,BD,AX,AC,AA,AU,BM,AZ,↓reduceIte,oGs,bNf]
  exact ⟨by rw [hi,List.drop_eq_nil_of_le (by omega)]; rfl,t.hx⟩
theorem AAW (G:Nat→AV) (m:Mo) (c:Cr) (x:Is) (h:Hp) (hh:Here m c.pts) (hl:c.pts.length≤1048576):PCall (En G) 172 [.agg (EN m),.agg (F7 c),.sl x.m 1 (x.l.map encI)] h (.bool (MS (szs m c.pts) x.l)):=by
 refine ACalls.pure0 rfl ?_
 refine CB (H:=Hint.none) (enM G) Tryz.func172 rfl (by kernel_rfl) (by kernel_rfl) (nLb (by kernel_rfl)) ?_
 show awp _ _ _ _ _ (EE _ [.tmp 6] _)
 have t:=Two.mk' h m c
 simp -implicitDefEqProofs only [BC,BA,A8,AY,BB,AO,AQ,AL,BD,AX,AC,AA,A7,AU,BM,BG,AZ,FV,BV,BK,D6,CE,AB,BF,BN,↓reduceIte,Nat.reduceEqDiff,Nat.zero_add,oGs,bNf,enP,JB,J9,bxM,bxC]
 generalize h ++ [ABlk.live 2 [EN m]] ++ [ABlk.live 3 [F7 c]]=H at t ⊢
 generalize (h ++ [ABlk.live 2 [EN m]]).length=cb at t ⊢
 simp -implicitDefEqProofs only [BI,A8,AY,BB,AO,AQ,AL,BD,AX,AC,AA,A7,BR,D6,AB,EJ,↓reduceIte,Nat.reduceEqDiff,oGs,bNf,enP,JB,t.l1,lLm]
 refine CW (fun h2 => ?_) (fun h2 => ?_)
 ·simp -implicitDefEqProofs only [BC,BA,BL,A8,CP,CJ,AY,BB,AO,AQ,AL,BD,AX,AC,AA,AU,BM,AZ,↓reduceIte,oGs,bNf]
  have:MS (szs m c.pts) x.l=false:=by
   rw [← Bool.not_eq_true]; intro e
   have:=RS e
   rw [NF] at this
   simp at h2; omega
  exact ⟨by rw [this],t.hx⟩
 have hlen:x.l.length=c.pts.length:=by simp at h2; omega
 simp -implicitDefEqProofs only [BC,BQ,BA,BO,A8,AY,BB,AO,AQ,AL,BD,AX,AC,AU,BH,AZ,oGs,bNf]
 refine DR (fun n F H' => ∃ k,n+k=x.l.length∧F 2 = .sl x.m 1 (x.l.map encI)∧F 3 = .ptr h.length 0 0∧F 4 = .ptr cb 0 0∧F 7 = .int .i64 (k:Nat)∧H'=H∧MS (szs m c.pts) x.l=MS ((szs m c.pts).drop k) (x.l.drop k)) x.l.length ⟨0,by simp,by simp -implicitDefEqProofs only [AA,BF,BN,↓reduceIte,Nat.reduceEqDiff],by simp -implicitDefEqProofs only [AA,↓reduceIte,Nat.reduceEqDiff],by simp -implicitDefEqProofs only [AA,↓reduceIte,Nat.reduceEqDiff],by simp -implicitDefEqProofs only [AA,↓reduceIte]; rfl,rfl,rfl⟩ ?_
 rintro n F H' ⟨k,hk,f2,f3,f4,f7,rfl,hi⟩
 simp -implicitDefEqProofs only [BC,BA,BI,A8,AY,BB,AO,AQ,AL,BD,AX,AC,AA,A7,BG,BR,D6,AB,DF,↓reduceIte,Nat.reduceEqDiff,oGs,bNf,enP,JB,f2,f7,lLm]
 refine CW (fun hlt => ?_) (fun hlt => ?_)
 ·have hk':k < x.l.length:=by simpa using hlt
  have hkc:k < c.pts.length:=by omega
  have hks:k < (szs m c.pts).length:=by rw [NF]; exact hkc
  have hgt:(szs m c.pts)[k]=(JI m c.pts[k]).length:=H9 (AFG m c.pts k hkc)
  rw [List.drop_eq_getElem_cons hk',List.drop_eq_getElem_cons hks,hgt] at hi
  obtain ⟨s,ls⟩:=hh.ld hkc H'
  simp -implicitDefEqProofs only [BC,BQ,BO,A8]
  refine FD (by kernel_rfl) ?_
  simp -implicitDefEqProofs only [F9,EH,DX,EM,FI,GK,FP,FQ,JA,ED,CO,AO,AA,A7,AU,BH,BV,BR,CG,AB,DF,↓reduceIte,Nat.reduceEqDiff,Nat.reduceAdd,oGs,enP,JH,f2,f3,f4,f7,D5 hk',DT ag3 hk',encI0]
  refine AJB (fun ha => ?_) (fun ha => ?_)
  ·simp -implicitDefEqProofs only [F9,EH,DX,FC,EM,FI,GK,ADH,I5,BC,BA,BL,BI,A8,CP,D8,FB,CJ,C9,AY,BB,CO,AO,AQ,AL,BD,AX,AC,AA,EQ,A7,AU,BM,AZ,CQ,DN,↓reduceIte,Nat.reduceEqDiff,Nat.reduceAdd,oGs,bNf,ha]
   have:decide (0≤x.l[k])=false:=by simp at ha ⊢; omega
   exact ⟨by rw [hi]; unfold MS; rw [this]; rfl,t.hx⟩
  have h0:decide (0≤x.l[k])=true:=by simp at ha ⊢; omega
  simp -implicitDefEqProofs only [F9,EH,DX,FC,EM,FI,GK,U2,FP,I5,FQ,JA,EG,ED,JK,BI,A8,CO,AO,AA,A7,AU,BM,CQ,DK,BV,BR,BK,CG,D6,AB,GZ,↓reduceIte,Nat.reduceEqDiff,Nat.reduceAdd,Nat.add_zero,Nat.zero_add,oGs,enP,PY,IX,Q9,IW,JH,J9,ha,f2,f3,f4,f7,t.lm,t.l1,D5 hk',DT ag3 hk',D5 hkc,DT ag3 hkc,encI0,hh.ix hkc,ls,lLm]
  refine CW (fun hd => ?_) (fun hd => ?_)
  ·simp -implicitDefEqProofs only [BC,BA,BL,A8,CP,D8,FB,CJ,AY,BB,AO,AQ,AL,BD,AX,AC,AA,AU,BM,AZ,↓reduceIte,oGs,bNf]
   have:decide (x.l[k] < ((JI m c.pts[k]).length:Int))=false:=by simp at hd ⊢; omega
   exact ⟨by rw [hi]; unfold MS; rw [this,h0]; rfl,t.hx⟩
  ·simp -implicitDefEqProofs only [BA,BO,A8,EF,ER,AY,BB,AO,AQ,AL,BD,AX,AC,AA,A7,AU,BH,BG,AZ,BR,AB,DI,↓reduceIte,Nat.reduceEqDiff,oGs,bNf,enP,f7,wrap_succ (show k < 9223372036854775807 by omega)]
   have h1:decide (x.l[k] < ((JI m c.pts[k]).length:Int))=true:=by simp at hd ⊢; omega
   refine ⟨n - 1,by omega,k+1,by omega,f2,f3,f4,rfl,trivial,?_⟩
   rw [hi]
   conv=>lhs; unfold MS
   rw [h0,h1]; rfl
 ·have hk' : ¬ k < x.l.length:=by simpa using hlt
  simp -implicitDefEqProofs only [BC,BA,BL,DL,A8,EC,EY,EW,CJ,AY,BB,AO,AQ,AL,BD,AX,AC,AA,AU,BM,AZ,↓reduceIte,oGs,bNf]
  exact ⟨by rw [hi,List.drop_eq_nil_of_le (show x.l.length≤k by omega),List.drop_eq_nil_of_le (by rw [NF]; omega)]; rfl,t.hx⟩
theorem AN5 (G:Nat→AV) (m:Mo) (c:Cr) (hc:CrOk c) (hf:Full m) (h:Hp):PCall (En G) 108 [.agg (EN m),.agg (F7 c)] h (.int .i64 (H8 m c)):=by
 refine ACalls.pure0 rfl ?_
 have hc2:=hc.pts
 have hc3:=hc.excl
 refine CB (H:=Hint.none) (enM G) Tryz.func108 rfl (by kernel_rfl) (by kernel_rfl) (nLb (by kernel_rfl)) ?_
 show awp _ _ _ _ _ (EE _ [.tmp 4] _)
 have t:=Two.mk' h m c
 simp -implicitDefEqProofs only [BC,BA,A8,AY,BB,AO,AQ,AL,BD,AX,AC,AA,A7,AU,BH,AZ,FV,BV,BK,CE,AB,BF,BN,↓reduceIte,Nat.reduceEqDiff,Nat.add_zero,oGs,bNf,enP,AF4,bxM,bxC]
 generalize h ++ [ABlk.live 2 [EN m]] ++ [ABlk.live 3 [F7 c]]=H at t ⊢
 generalize (h ++ [ABlk.live 2 [EN m]]).length=cb at t ⊢
 simp -implicitDefEqProofs only [AY,AO,AQ,AL,BD,AX,AC,AA,A7,BX,BZ,BU,AB,lMc,lMn,lAn,↓reduceIte,oGs,bNf,t.l0]
 refine (OW G c.name _).use ?_
 simp -implicitDefEqProofs only [BI,A8,AY,BB,AO,AQ,AL,BD,AX,AC,AA,A7,G6,AB,EX,↓reduceIte,oGs,bNf]
 cases h1:G8 c.name
 ·simp -implicitDefEqProofs only [BC,BA,BL,A8,CP,CJ,C9,AY,BB,AO,AQ,AL,BD,AX,AC,AA,AU,BH,AZ,↓reduceIte,oGs,bNf]
  exact ⟨by unfold H8; rw [if_pos h1],t.hx⟩
 have h1' : ¬ G8 c.name=false:=by rw [h1]; decide
 simp -implicitDefEqProofs only [BC,BA,BO,A8,DU,AY,AO,AQ,AL,BD,AX,AC,AA,A7,BX,BV,BZ,BU,AB,lMc,lMn,lAn,↓reduceIte,Nat.reduceEqDiff,oGs,bNt,bNf,enP,ldM t.gm,ldC t.gc]
 refine (AJW G m c _ (by omega)).use ?_
 simp -implicitDefEqProofs only [BI,A8,AY,BB,AO,AQ,AL,BD,AX,AC,AA,A7,G6,AB,EX,↓reduceIte,oGs,bNf]
 cases h2:placed m c
 ·simp -implicitDefEqProofs only [BC,BA,BL,A8,CP,CJ,C9,AY,BB,AO,AQ,AL,BD,AX,AC,AA,AU,BH,AZ,↓reduceIte,oGs,bNf]
  refine ⟨?_,t.hx⟩
  unfold H8; rw [if_neg h1']
  unfold placed at h2
  split
  ·rfl
  ·rename_i h3
   have d2:decide (2≤c.pts.length)=true:=by simp; omega
   have d3:decide (c.pts.length≤4)=true:=by simp; omega
   rw [d2,d3] at h2
   rw [if_pos (by simpa using h2)]
 unfold placed at h2
 simp only [Bool.and_eq_true,decide_eq_true_eq] at h2
 obtain ⟨⟨h3,h4⟩,h5⟩:=h2
 have h23 : ¬ (c.pts.length < 2∨4 < c.pts.length):=by omega
 have hi' : ¬ UL m.pts.length none c.pts=false:=by rw [h5]; decide
 have hh:=VC h5
 simp -implicitDefEqProofs only [BC,BA,BO,A8,DU,AY,AO,AQ,AL,BD,AX,AC,AA,A7,BX,BV,BZ,BU,AB,lMc,lMn,lAn,↓reduceIte,Nat.reduceEqDiff,oGs,bNt,bNf,enP,ldM t.gm,ldC t.gc]
 refine (ZL G m c _ hh hf (by omega)).use ?_
 simp -implicitDefEqProofs only [AY,BJ,BP,CO,AO,AQ,AL,BD,AX,AC,AA,A7,AU,BH,BG,BR,AB,EZ,↓reduceIte,oGs,bNf,enP]
 refine G5 (fun ha => ?_) (fun ha => ?_)
 ·simp -implicitDefEqProofs only [BC,BA,BL,BI,A8,CP,CJ,C9,AY,BB,BJ,BP,CO,FK,AO,AQ,AL,BD,AX,AC,AA,EQ,A7,AU,BH,BM,AZ,CQ,DN,↓reduceIte,Nat.reduceEqDiff,oGs,bNf,ha]
  exact ⟨by unfold H8; rw [if_neg h1',if_neg h23,if_neg hi',if_pos (.inl (by simp at ha; omega))],t.hx⟩
 simp -implicitDefEqProofs only [BI,A8,AY,BB,BJ,BP,CO,EK,AO,AQ,AL,BD,AX,AC,AA,A7,AU,BH,BM,CQ,DK,BV,BR,BK,D6,AB,EZ,↓reduceIte,Nat.reduceEqDiff,Nat.zero_add,oGs,bNf,enP,TA,TB,ha,t.l2,lLm]
 refine CW (fun hb => ?_) (fun hb => ?_)
 ·simp -implicitDefEqProofs only [BC,BA,BL,A8,CP,CJ,AY,BB,AO,AQ,AL,BD,AX,AC,AA,AU,BH,AZ,↓reduceIte,oGs,bNf]
  exact ⟨by unfold H8; rw [if_neg h1',if_neg h23,if_neg hi',if_pos (.inr (by simp at hb; omega))],t.hx⟩
 have hab : ¬ (256 < IC (szs m c.pts)∨256 < c.excl.length):=by simp at ha hb; omega
 have hce:H8 m c=if (c.excl.any fun x => !MS (szs m c.pts) x.l) then 1 else 0:=by
  unfold H8; rw [if_neg h1',if_neg h23,if_neg hi',if_neg hab]
 simp -implicitDefEqProofs only [BC,BQ,BA,BO,A8,AY,BB,AO,AQ,AL,BD,AX,AC,AU,BH,AZ,oGs,bNf]
 refine DR (fun n F H' => ∃ k,n+k=c.excl.length∧F 2 = .ptr h.length 0 0∧F 3 = .ptr cb 0 0∧F 5 = .int .i64 (k:Nat)∧H'=H∧(c.excl.any fun x => !MS (szs m c.pts) x.l)=((c.excl.drop k).any fun x => !MS (szs m c.pts) x.l)) c.excl.length ⟨0,by simp,by simp -implicitDefEqProofs only [AA,↓reduceIte,Nat.reduceEqDiff],by simp -implicitDefEqProofs only [AA,↓reduceIte,Nat.reduceEqDiff],by simp -implicitDefEqProofs only [AA,↓reduceIte]; rfl,rfl,rfl⟩ ?_
 rintro n F H' ⟨k,hk,f2,f3,f5,rfl,hi⟩
 simp -implicitDefEqProofs only [BC,BA,BI,A8,AY,BB,AO,AQ,AL,BD,AX,AC,AA,A7,BG,BV,BR,BK,D6,AB,DF,↓reduceIte,Nat.reduceEqDiff,Nat.zero_add,oGs,bNf,enP,TA,TB,f3,f5,t.l2,lLm]
 refine CW (fun hlt => ?_) (fun hlt => ?_)
 ·have hk':k < c.excl.length:=by simpa using hlt
  have hs:=KF (fun x:Is => !MS (szs m c.pts) x.l) c.excl k hk'
  simp -implicitDefEqProofs only [BC,BQ,BO,A8]
  refine FD (by kernel_rfl) ?_
  simp -implicitDefEqProofs only [F9,EH,DX,EM,FP,FQ,ABB,EG,ED,GV,GI,AO,AA,A7,BX,BV,G6,BK,CG,AB,lMc,lMn,lAn,↓reduceIte,Nat.reduceEqDiff,Nat.reduceAdd,Nat.zero_add,oGs,enP,NH,TB,f2,f3,f5,ldM t.gm,ldC t.gc,t.l2,D5 hk',DT LD hk',NV]
  refine ⟨_,AAW G m c c.excl[k] _ hh (by omega),?_⟩
  try simp -implicitDefEqProofs only [DX,FC,BI,A8,AA,A7,AB,EX,↓reduceIte]
  cases hx:MS (szs m c.pts) c.excl[k].l
  ·simp -implicitDefEqProofs only [BC,BA,BL,A8,CP,D8,FB,CJ,C9,AY,BB,AO,AQ,AL,BD,AX,AC,AA,AU,BH,AZ,↓reduceIte,oGs,bNf]
   exact ⟨by rw [hce,hi,hs,hx]; rfl,t.hx⟩
  ·simp -implicitDefEqProofs only [BA,BO,A8,EF,ER,DU,AY,BB,AO,AQ,AL,BD,AX,AC,AA,A7,AU,BH,BG,AZ,BR,AB,DI,↓reduceIte,Nat.reduceEqDiff,oGs,bNt,bNf,enP,f5,wrap_succ (show k < 9223372036854775807 by omega)]
   refine ⟨n - 1,by omega,k+1,by omega,f2,f3,rfl,trivial,?_⟩
   rw [hi,hs,hx]; rfl
 ·have hk' : ¬ k < c.excl.length:=by simpa using hlt
  simp -implicitDefEqProofs only [BC,BA,BL,DL,A8,EC,EY,EW,CJ,AY,BB,AO,AQ,AL,BD,AX,AC,AA,AU,BH,AZ,↓reduceIte,oGs,bNf]
  exact ⟨by rw [hce,hi,List.drop_eq_nil_of_le (by omega)]; rfl,t.hx⟩
structure MoOk (m:Mo):Prop where
 np:m.pts.length≤1048576
 nc:m.crs.length≤1048576
 pts : ∀ p∈m.pts,PtOk p
 crs : ∀ c∈m.crs,CrOk c
def GN (m:Mo):Int :=
 if 16 < m.pts.length+m.crs.length then 2 else if JG GL m.pts≠0 then JG GL m.pts else if OJ (m.pts.map (·.name)) then 8 else
  if JG (H8 m) m.crs≠0 then JG (H8 m) m.crs else if OJ (m.crs.map (·.name)) then 8 else 0
theorem X0 {α:Type} (f:α→Int) : ∀ {xs:List α},JG f xs=0→∀ x∈xs,f x=0
 | [],_,_,hx=>by cases hx
 | y :: ys,h,x,hx=>by
   simp only [JG] at h
   split at h
   ·rename_i h0
    cases List.mem_cons.1 hx with
    | inl e=>subst e; exact h0
    | inr e=>exact X0 f h x e
   ·rename_i h0; exact absurd h h0
theorem AHV {p:Pt} (h:GL p=0):1≤p.bins.length∧p.bins.length≤64:=by
 unfold GL at h
 split at h
 ·cases h
 ·split at h
  ·rename_i h2; exact absurd h h2
  ·split at h
   ·cases h
   ·split at h
    ·cases h
    ·omega
theorem full_of {m:Mo} (h:JG GL m.pts=0):Full m:=fun p hp=>AHV (X0 _ h p hp)
theorem AUK (h:Hp):J3 Tryz.prog h 56=some (.ptr h.length 0 0,h ++ [.live 6 [[.str ⟨#[]⟩,.int .i64 0,.int .i64 0,.str ⟨#[]⟩,.sl .nil 0 [],.sl .nil 0 []]]]):=JV (row := [.str ⟨#[]⟩,.int .i64 0,.int .i64 0,.str ⟨#[]⟩,.sl .nil 0 [],.sl .nil 0 []]) (by kernel_rfl)
theorem ASH (h:Hp) (p:Pt) (row:List AV) (hr:row.length=6):FM Tryz.prog (h ++ [.live 6 [row]]) 56 (.ptr h.length 0 0) (.agg (FX p))=some (h ++ [.live 6 [FX p]]):=by
 rw [MP (U0 (AEW p)) (by rw [JC]; exact YX) (by rw [JC,hr]; exact Nat.le_refl _)]
 have:splice row 0 (FX p)=FX p:=by unfold splice; simp [JC,hr]
 rw [this]
theorem ldP {h:Hp} {b:Nat} {p:Pt} (hb:h[b]? = some (.live 6 [FX p])):DZ Tryz.prog h 56 (.ptr b 0 0)=some (.agg (FX p)):=by
 rw [IY AC8 YX hb rfl (by rw [JC]; exact Nat.le_refl 6),List.drop_zero,List.take_of_length_le (by rw [JC]; exact Nat.le_refl 6)]
theorem ARS (h:Hp):J3 Tryz.prog h 71=some (.ptr h.length 0 0,h ++ [.live 3 [[.str ⟨#[]⟩,.sl .nil 0 [],.sl .nil 0 []]]]):=JV (row := [.str ⟨#[]⟩,.sl .nil 0 [],.sl .nil 0 []]) (by kernel_rfl)
theorem AO8 (h:Hp) (c:Cr) (row:List AV) (hr:row.length=3):FM Tryz.prog (h ++ [.live 3 [row]]) 71 (.ptr h.length 0 0) (.agg (F7 c))=some (h ++ [.live 3 [F7 c]]):=by
 rw [MP (U0 rfl) (by rw [JX]; exact XK) (by rw [JX,hr]; exact Nat.le_refl _)]
 have:splice row 0 (F7 c)=F7 c:=by unfold splice; simp [JX,hr]
 rw [this]
theorem QG (G:Nat→AV) (hG:GOk G) (m:Mo) (hm:MoOk m) (h:Hp):PCall (En G) 68 [.agg (EN m)] h (.int .i64 (GN m)):=by
 refine ACalls.pure0 rfl ?_
 have hm1:=hm.np
 have hm2:=hm.nc
 refine CB (H:=Hint.none) (enM G) Tryz.func68 rfl (by kernel_rfl) (by kernel_rfl) (nLb (by kernel_rfl)) ?_
 show awp _ _ _ _ _ (EE _ [.tmp 2] _)
 have hw:IntKind.i64.wrap ((m.pts.length:Int)+(m.crs.length:Int))=(m.pts.length:Int)+(m.crs.length:Int):=wrap_i64 (by omega) (by omega)
 simp -implicitDefEqProofs only [BC,BA,BI,A8,AY,BB,AO,AQ,AL,BD,AX,AC,AA,A7,AU,BH,AZ,FV,BV,BR,BK,D6,CE,AB,DI,EZ,BF,↓reduceIte,Nat.reduceEqDiff,Nat.add_zero,Nat.zero_add,oGs,bNf,enP,QI,VQ,IX,JZ,bxM,DC TS,DC AC9,OO,UR,lLm,hw]
 refine CW (fun h1 => ?_) (fun h1 => ?_)
 ·simp -implicitDefEqProofs only [BC,BA,BL,A8,CP,CJ,AY,BB,AO,AQ,AL,BD,AX,AC,AA,AU,BH,AZ,↓reduceIte,oGs,bNf]
  exact ⟨by unfold GN; rw [if_pos (by simp at h1; omega)],_,rfl⟩
 have h1' : ¬ 16 < m.pts.length+m.crs.length:=by simp at h1; omega
 have hme:GN m=if JG GL m.pts≠0 then JG GL m.pts else if OJ (m.pts.map (·.name)) then 8 else if JG (H8 m) m.crs≠0 then JG (H8 m) m.crs else if OJ (m.crs.map (·.name)) then 8 else 0:=by
  unfold GN; rw [if_neg h1']
 have lm0 : ∀ H:Hp,H[h.length]? = some (.live 2 [EN m])→DZ Tryz.prog H 22 (.ptr h.length 0 0)=some (.sl m.pm 6 (m.pts.map FX)):=fun H hH=>by rw [DJ TS hH (row:=EN m) rfl,OO]
 have lm1 : ∀ H:Hp,H[h.length]? = some (.live 2 [EN m])→DZ Tryz.prog H 23 (.ptr h.length 0 1)=some (.sl m.cm 3 (m.crs.map F7)):=fun H hH=>by rw [DJ AC9 hH (row:=EN m) rfl,UR]
 simp -implicitDefEqProofs only [BC,BQ,BA,BO,A8,AY,BB,AO,AQ,AL,BD,AX,AC,AA,A7,AU,BH,BG,BV,BK,D6,AB,↓reduceIte,Nat.reduceEqDiff,Nat.add_zero,oGs,bNf,enP,QI,IX,DC TS,OO,lLm]
 refine G9 0 (fun F H=>F 1 = .ptr h.length 0 0∧H[h.length]? = some (.live 2 [EN m])∧(∃ x,H=h ++ x)∧JG GL m.pts=0) (fun F H=>F 2 = .int .i64 (GN m)∧∃ x,H=h ++ x) ?_ ?_ ?_
 ·refine DR (fun n F H => ∃ k,n+k=m.pts.length∧F 1 = .ptr h.length 0 0∧F 18 = .sl m.pm 6 (m.pts.map FX)∧F 19 = .int .i64 m.pts.length∧F 20 = .int .i64 (k:Nat)∧H[h.length]? = some (.live 2 [EN m])∧(∃ x,H=h ++ x)∧JG GL m.pts=JG GL (m.pts.drop k)) m.pts.length ⟨0,by simp,by simp -implicitDefEqProofs only [AA,↓reduceIte,Nat.reduceEqDiff],by simp -implicitDefEqProofs only [AA,↓reduceIte,Nat.reduceEqDiff],by simp -implicitDefEqProofs only [AA,↓reduceIte,Nat.reduceEqDiff],by simp -implicitDefEqProofs only [AA,↓reduceIte]; rfl,CY _ _,⟨_,rfl⟩,rfl⟩ ?_
  rintro n F H ⟨k,hk,f1,f18,f19,f20,hb,⟨x,hx⟩,hf⟩
  simp -implicitDefEqProofs only [BC,BA,BI,A8,AY,BB,AO,AQ,AL,BD,AX,AC,AA,A7,BR,AB,DF,↓reduceIte,oGs,bNf,enP,f19,f20]
  refine CW (fun hc => ?_) (fun hc => ?_)
  ·have hk':k < m.pts.length:=by simpa using hc
   have hs:=NU GL m.pts k hk'
   simp -implicitDefEqProofs only [BC,BQ,BA,BO,A8,AY,BB,AO,AQ,AL,BD,AX,AC,E8,AA,A7,BX,GG,BV,EP,CG,BZ,BU,CE,AB,DW,lMc,lMn,lAn,↓reduceIte,Nat.reduceEqDiff,oGs,bNf,enP,PY,Option.getD_none,f18,f20,D5 hk',FO AC8 YX JC hk',AUK,ASH _ _ [.str ⟨#[]⟩,.int .i64 0,.int .i64 0,.str ⟨#[]⟩,.sl .nil 0 [],.sl .nil 0 []] rfl,ldP (CY H (.live 6 [FX m.pts[k]]))]
   refine (ABX G hG m.pts[k] (hm.pts _ (List.getElem_mem hk')) _).use ?_
   simp -implicitDefEqProofs only [BC,BA,BI,A8,AY,BB,AO,AQ,AL,BD,AX,AC,AA,A7,AU,BH,BG,AZ,BR,AB,EJ,↓reduceIte,oGs,bNf,enP]
   refine CW (fun hv => ?_) (fun hv => ?_)
   ·simp -implicitDefEqProofs only [BC,BA,BL,A8,CP,D8,MR,FB,AY,BB,AO,AQ,AL,BD,AX,AC,AA,A7,BG,AZ,↓reduceIte,Nat.reduceEqDiff,oGs,bNf]
    have hv':GL m.pts[k]≠0:=by simpa using hv
    have:JG GL m.pts=GL m.pts[k]:=by rw [hf,hs,if_neg hv']
    exact ⟨by rw [hme,this,if_pos hv'],x ++ _,by rw [hx,List.append_assoc]⟩
   ·have hv':GL m.pts[k]=0:=by simpa using hv
    simp -implicitDefEqProofs only [BA,BO,A8,EF,ER,AY,BB,AO,AQ,AL,BD,AX,AC,AA,A7,AU,BH,BG,BR,AB,DI,↓reduceIte,Nat.reduceEqDiff,oGs,bNf,enP,f20,wrap_succ (show k < 9223372036854775807 by omega)]
    exact ⟨n - 1,by omega,k+1,by omega,f1,f18,f19,rfl,CX hb,⟨x ++ _,by rw [hx,List.append_assoc]⟩,by rw [hf,hs,if_pos hv']⟩
  ·have hk' : ¬ k < m.pts.length:=by simpa using hc
   simp -implicitDefEqProofs only [DL,EC,KG,EW,AA,↓reduceIte,Nat.reduceEqDiff]
   exact ⟨f1,hb,⟨x,hx⟩,by rw [hf,List.drop_eq_nil_of_le (by omega)]; rfl⟩
 ·rintro F H ⟨f1,hb,hx0,hf⟩
  have hfull:=full_of hf
  rw [hf,if_neg (fun hh=>hh rfl)] at hme
  simp -implicitDefEqProofs only [BC,BA,A8,EY,AY,AO,AQ,AL,BD,AX,AC,AA,A7,BX,BV,BK,BZ,BU,AB,lMc,lMn,lAn,↓reduceIte,Nat.add_zero,oGs,bNf,enP,IX,f1,lm0 _ hb]
  refine (ANC G m.pts m.pm H (by omega)).use ?_
  simp -implicitDefEqProofs only [BI,A8,BB,AC,AA,A7,↓reduceIte]
  cases hd:OJ (m.pts.map (·.name))
  case true =>
   simp -implicitDefEqProofs only [BC,BA,BL,A8,CP,CJ,C9,AY,BB,AO,AQ,AL,BD,AX,AC,AA,AU,BH,AZ,↓reduceIte,oGs,bNf]
   exact ⟨by rw [hme,hd]; rfl,hx0⟩
  rw [hd] at hme
  simp only [Bool.false_eq_true,if_false] at hme
  simp -implicitDefEqProofs only [BC,BQ,BA,BO,A8,DU,AY,BB,AO,AQ,AL,BD,AX,AC,AA,A7,AU,BH,BG,BV,BK,D6,AB,↓reduceIte,Nat.reduceEqDiff,Nat.zero_add,oGs,bNf,enP,VQ,JZ,f1,lm1 _ hb,lLm]
  refine G9 2 (fun F H=>F 1 = .ptr h.length 0 0∧H[h.length]? = some (.live 2 [EN m])∧(∃ x,H=h ++ x)∧JG (H8 m) m.crs=0) (fun F H=>F 2 = .int .i64 (GN m)∧∃ x,H=h ++ x) ?_ ?_ ?_
  ·refine DR (fun n F H => ∃ k,n+k=m.crs.length∧F 1 = .ptr h.length 0 0∧F 34 = .sl m.cm 3 (m.crs.map F7)∧F 35 = .int .i64 m.crs.length∧F 36 = .int .i64 (k:Nat)∧H[h.length]? = some (.live 2 [EN m])∧(∃ x,H=h ++ x)∧JG (H8 m) m.crs=JG (H8 m) (m.crs.drop k)) m.crs.length ⟨0,by simp,by simp -implicitDefEqProofs only [AA,↓reduceIte,Nat.reduceEqDiff,f1],by simp -implicitDefEqProofs only [AA,↓reduceIte,Nat.reduceEqDiff],by simp -implicitDefEqProofs only [AA,↓reduceIte,Nat.reduceEqDiff],by simp -implicitDefEqProofs only [AA,↓reduceIte]; rfl,hb,hx0,rfl⟩ ?_
   clear f1 hb hx0
   rintro n F H ⟨k,hk,f1,f34,f35,f36,hb,⟨x,hx⟩,hf⟩
   simp -implicitDefEqProofs only [BC,BA,BI,A8,AY,BB,AO,AQ,AL,BD,AX,AC,AA,A7,BR,AB,DF,↓reduceIte,oGs,bNf,enP,f35,f36]
   refine CW (fun hc => ?_) (fun hc => ?_)
   ·have hk':k < m.crs.length:=by simpa using hc
    have hs:=NU (H8 m) m.crs k hk'
    simp -implicitDefEqProofs only [BC,BQ,BA,BO,A8,AY,BB,AO,AQ,AL,BD,AX,AC,E8,AA,A7,BX,GG,BV,EP,CG,BZ,BU,CE,AB,DW,lMc,lMn,lAn,↓reduceIte,Nat.reduceEqDiff,oGs,bNf,enP,ZA,Option.getD_none,f1,f34,f36,D5 hk',FO AAX XK JX hk',ARS,AO8 _ _ [.str ⟨#[]⟩,.sl .nil 0 [],.sl .nil 0 []] rfl,ldC (CY H (.live 3 [F7 m.crs[k]])),ldM (CX (x := .live 3 [F7 m.crs[k]]) hb)]
    refine (AKO G hG m m.crs[k] (hm.crs _ (List.getElem_mem hk')) hfull _).use ?_
    simp -implicitDefEqProofs only [BC,BA,BI,A8,AY,BB,AO,AQ,AL,BD,AX,AC,AA,A7,AU,BH,BG,AZ,BR,AB,EJ,↓reduceIte,oGs,bNf,enP]
    refine CW (fun hv => ?_) (fun hv => ?_)
    ·simp -implicitDefEqProofs only [BC,BA,BL,A8,CP,D8,MR,FB,AY,BB,AO,AQ,AL,BD,AX,AC,AA,A7,BG,AZ,↓reduceIte,Nat.reduceEqDiff,oGs,bNf]
     have hv':H8 m m.crs[k]≠0:=by simpa using hv
     have:JG (H8 m) m.crs=H8 m m.crs[k]:=by rw [hf,hs,if_neg hv']
     exact ⟨by rw [hme,this,if_pos hv'],x ++ _,by rw [hx,List.append_assoc]⟩
    ·have hv':H8 m m.crs[k]=0:=by simpa using hv
     simp -implicitDefEqProofs only [BA,BO,A8,EF,ER,AY,BB,AO,AQ,AL,BD,AX,AC,AA,A7,AU,BH,BG,BR,AB,DI,↓reduceIte,Nat.reduceEqDiff,oGs,bNf,enP,f36,wrap_succ (show k < 9223372036854775807 by omega)]
     exact ⟨n - 1,by omega,k+1,by omega,f1,f34,f35,rfl,CX hb,⟨x ++ _,by rw [hx,List.append_assoc]⟩,by rw [hf,hs,if_pos hv']⟩
   ·have hk' : ¬ k < m.crs.length:=by simpa using hc
    simp -implicitDefEqProofs only [DL,EC,KG,EW,AA,↓reduceIte,Nat.reduceEqDiff]
    exact ⟨f1,hb,⟨x,hx⟩,by rw [hf,List.drop_eq_nil_of_le (by omega)]; rfl⟩
  ·rintro F H ⟨f1,hb,hx,hf⟩
   rw [hf,if_neg (fun hh=>hh rfl)] at hme
   simp -implicitDefEqProofs only [BC,BA,A8,EY,AY,AO,AQ,AL,BD,AX,AC,AA,A7,BX,BV,BK,BZ,BU,AB,lMc,lMn,lAn,↓reduceIte,Nat.zero_add,oGs,bNf,enP,JZ,f1,lm1 _ hb]
   refine (ANE G m.crs m.cm H (by omega)).use ?_
   simp -implicitDefEqProofs only [BI,A8,BB,AC,AA,A7,↓reduceIte]
   cases hd:OJ (m.crs.map (·.name))
   ·simp -implicitDefEqProofs only [BC,BA,BO,BL,A8,CJ,DU,AY,BB,AO,AQ,AL,BD,AX,AC,AA,AU,BH,AZ,↓reduceIte,oGs,bNf]
    exact ⟨by rw [hme,hd]; rfl,hx⟩
   ·simp -implicitDefEqProofs only [BC,BA,BL,A8,CP,CJ,C9,AY,BB,AO,AQ,AL,BD,AX,AC,AA,AU,BH,AZ,↓reduceIte,oGs,bNf]
    exact ⟨by rw [hme,hd]; rfl,hx⟩
  ·rintro F H ⟨f2,hx⟩
   simp -implicitDefEqProofs only [CP,D8,CJ,f2]
   exact ⟨trivial,hx⟩
 ·rintro F H ⟨f2,hx⟩
  simp -implicitDefEqProofs only [CP,D8,CJ,f2]
  exact ⟨trivial,hx⟩
theorem Y8 (G:Nat→AV) (m:Mo) (hm:MoOk m) (h:Hp):PCall (En G) 50 [.agg (EN m)] h (.int .i64 (GN m)):=by
 refine ACalls.pure0 rfl ?_
 have hm1:=hm.np
 have hm2:=hm.nc
 refine CB (H:=Hint.none) (enM G) Tryz.func50 rfl (by kernel_rfl) (by kernel_rfl) (nLb (by kernel_rfl)) ?_
 show awp _ _ _ _ _ (EE _ [.tmp 2] _)
 have hw:IntKind.i64.wrap ((m.pts.length:Int)+(m.crs.length:Int))=(m.pts.length:Int)+(m.crs.length:Int):=wrap_i64 (by omega) (by omega)
 have gm:=CY h (.live 2 [EN m])
 have hx : ∃ x,h ++ [ABlk.live 2 [EN m]]=h ++ x:=⟨_,rfl⟩
 simp -implicitDefEqProofs only [BC,BA,A8,AY,BB,AO,AQ,AL,BD,AX,AC,AA,A7,AU,BH,AZ,FV,BV,BK,CE,AB,BF,↓reduceIte,Nat.reduceEqDiff,Nat.add_zero,oGs,bNf,enP,IX,bxM]
 generalize h ++ [ABlk.live 2 [EN m]]=H at gm hx ⊢
 have lm0:DZ Tryz.prog H 22 (.ptr h.length 0 0)=some (.sl m.pm 6 (m.pts.map FX)):=by rw [DJ TS gm (row:=EN m) rfl,OO]
 have lm1:DZ Tryz.prog H 23 (.ptr h.length 0 1)=some (.sl m.cm 3 (m.crs.map F7)):=by rw [DJ AC9 gm (row:=EN m) rfl,UR]
 simp -implicitDefEqProofs only [BI,A8,AY,BB,AO,AQ,AL,BD,AX,AC,AA,A7,AU,BH,BV,BR,BK,D6,AB,DI,EZ,↓reduceIte,Nat.reduceEqDiff,Nat.zero_add,oGs,bNf,enP,QI,VQ,JZ,lm0,lm1,lLm,hw]
 refine CW (fun h1 => ?_) (fun h1 => ?_)
 ·simp -implicitDefEqProofs only [BC,BA,BL,A8,CP,CJ,AY,BB,AO,AQ,AL,BD,AX,AC,AA,AU,BH,AZ,↓reduceIte,oGs,bNf]
  exact ⟨by unfold GN; rw [if_pos (by simp at h1; omega)],hx⟩
 have h1' : ¬ 16 < m.pts.length+m.crs.length:=by simp at h1; omega
 have hme:GN m=if JG GL m.pts≠0 then JG GL m.pts else if OJ (m.pts.map (·.name)) then 8 else if JG (H8 m) m.crs≠0 then JG (H8 m) m.crs else if OJ (m.crs.map (·.name)) then 8 else 0:=by
  unfold GN; rw [if_neg h1']
 simp -implicitDefEqProofs only [BC,BQ,BA,BO,A8,AY,BB,AO,AQ,AL,BD,AX,AC,AU,BH,AZ,oGs,bNf]
 refine G9 0 (fun F H'=>F 1 = .ptr h.length 0 0∧H'=H∧JG GL m.pts=0) (fun F H'=>F 2 = .int .i64 (GN m)∧H'=H) ?_ ?_ ?_
 ·refine DR (fun n F H' => ∃ k,n+k=m.pts.length∧F 1 = .ptr h.length 0 0∧F 3 = .int .i64 (k:Nat)∧H'=H∧JG GL m.pts=JG GL (m.pts.drop k)) m.pts.length ⟨0,by simp,by simp -implicitDefEqProofs only [AA,↓reduceIte,Nat.reduceEqDiff],by simp -implicitDefEqProofs only [AA,↓reduceIte]; rfl,rfl,rfl⟩ ?_
  rintro n F H' ⟨k,hk,f1,f3,rfl,hf⟩
  simp -implicitDefEqProofs only [BC,BA,BI,A8,AY,BB,AO,AQ,AL,BD,AX,AC,AA,A7,BG,BV,BR,BK,D6,AB,DF,↓reduceIte,Nat.reduceEqDiff,Nat.add_zero,oGs,bNf,enP,QI,IX,f1,f3,lm0,lLm]
  refine CW (fun hc => ?_) (fun hc => ?_)
  ·have hk':k < m.pts.length:=by simpa using hc
   have hs:=NU GL m.pts k hk'
   simp -implicitDefEqProofs only [BC,BQ,BA,BO,A8,AY,AO,AQ,AL,BD,AX,AC,AA,A7,BX,BG,BV,BK,CG,BZ,BU,AB,lMc,lMn,lAn,↓reduceIte,Nat.reduceEqDiff,Nat.add_zero,oGs,bNf,enP,PY,IX,f1,f3,lm0,D5 hk',FO AC8 YX JC hk']
   refine (AEE G m.pts[k] (hm.pts _ (List.getElem_mem hk')) _).use ?_
   simp -implicitDefEqProofs only [BC,BA,BI,A8,AY,BB,AO,AQ,AL,BD,AX,AC,AA,A7,AU,BH,BG,AZ,BR,AB,EJ,↓reduceIte,oGs,bNf,enP]
   refine CW (fun hv => ?_) (fun hv => ?_)
   ·simp -implicitDefEqProofs only [BC,BA,BL,A8,CP,D8,MR,FB,AY,BB,AO,AQ,AL,BD,AX,AC,AA,A7,BG,AZ,↓reduceIte,Nat.reduceEqDiff,oGs,bNf]
    have hv':GL m.pts[k]≠0:=by simpa using hv
    have:JG GL m.pts=GL m.pts[k]:=by rw [hf,hs,if_neg hv']
    exact ⟨by rw [hme,this,if_pos hv'],trivial⟩
   ·have hv':GL m.pts[k]=0:=by simpa using hv
    simp -implicitDefEqProofs only [BA,BO,A8,EF,ER,AY,BB,AO,AQ,AL,BD,AX,AC,AA,A7,AU,BH,BG,AZ,BR,AB,DI,↓reduceIte,Nat.reduceEqDiff,oGs,bNf,enP,f3,wrap_succ (show k < 9223372036854775807 by omega)]
    exact ⟨n - 1,by omega,k+1,by omega,f1,rfl,trivial,by rw [hf,hs,if_pos hv']⟩
  ·have hk' : ¬ k < m.pts.length:=by simpa using hc
   simp -implicitDefEqProofs only [DL,EC,KG,EW,AA,↓reduceIte,Nat.reduceEqDiff]
   exact ⟨f1,trivial,by rw [hf,List.drop_eq_nil_of_le (by omega)]; rfl⟩
 ·rintro F H' ⟨f1,rfl,hf⟩
  have hfull:=full_of hf
  rw [hf,if_neg (fun hh=>hh rfl)] at hme
  simp -implicitDefEqProofs only [BC,BQ,BA,A8,EY,AY,BB,AO,AQ,AL,BD,AX,AC,AU,BH,AZ,↓reduceIte,oGs,bNf,f1]
  refine G9 2 (fun F H=>F 1 = .ptr h.length 0 0∧H=H'∧OJ (m.pts.map (·.name))=false) (fun F H=>F 2 = .int .i64 (GN m)∧H=H') ?_ ?_ ?_
  ·generalize hN:m.pts.map (·.name)=N at hme ⊢
   have hNl:N.length=m.pts.length:=by rw [← hN]; simp
   have hNi : ∀ i (hi:i < m.pts.length),N[i]? = some m.pts[i].name:=fun i hi=>by rw [← hN,List.getElem?_map,List.getElem?_eq_getElem hi]; rfl
   refine DR (fun n F H => ∃ i,n+i=m.pts.length∧F 1 = .ptr h.length 0 0∧F 5 = .int .i64 (i:Nat)∧H=H'∧OJ N=ADU (N.take i) (N.drop i)) m.pts.length ⟨0,by simp,by simp -implicitDefEqProofs only [AA,↓reduceIte,Nat.reduceEqDiff,f1],by simp -implicitDefEqProofs only [AA,↓reduceIte]; rfl,rfl,rfl⟩ ?_
   clear f1
   rintro n F H' ⟨i,hi,f1,f5,rfl,hd⟩
   simp -implicitDefEqProofs only [BC,BA,BI,A8,AY,BB,AO,AQ,AL,BD,AX,AC,AA,A7,BG,BV,BR,BK,D6,AB,DF,↓reduceIte,Nat.reduceEqDiff,Nat.add_zero,oGs,bNf,enP,QI,IX,f1,f5,lm0,lLm]
   refine CW (fun hc => ?_) (fun hc => ?_)
   ·have hi':i < m.pts.length:=by simpa using hc
    have hdrop:=QA N i (by omega)
    rw [H9 (hNi i hi')] at hdrop
    simp -implicitDefEqProofs only [BC,BQ,BA,BO,A8,AY,BB,AO,AQ,AL,BD,AX,AC,AU,BH,AZ,oGs,bNf,f5]
    refine G9 4 (fun F' H=>F' 1 = .ptr h.length 0 0∧F' 5 = .int .i64 (i:Nat)∧H=H'∧IG (N.take i) m.pts[i].name=false) (fun F' H=>F' 2 = .int .i64 8∧H=H'∧OJ N=true) ?_ ?_ ?_
    ·refine DR (fun n F' H => ∃ k,n+k=i∧F' 1 = .ptr h.length 0 0∧F' 5 = .int .i64 (i:Nat)∧F' 6 = .int .i64 (k:Nat)∧H=H'∧IG (N.take i) m.pts[i].name=IG ((N.take i).drop k) m.pts[i].name) i ⟨0,by simp,by simp -implicitDefEqProofs only [AA,↓reduceIte,Nat.reduceEqDiff,f1],by simp -implicitDefEqProofs only [AA,↓reduceIte,Nat.reduceEqDiff,f5],by simp -implicitDefEqProofs only [AA,↓reduceIte]; rfl,rfl,rfl⟩ ?_
     clear f1 f5
     rintro n' F H' ⟨k,hk,f1,f5,f6,rfl,hin⟩
     simp -implicitDefEqProofs only [BC,BA,BI,A8,AY,BB,AO,AQ,AL,BD,AX,AC,AA,A7,BG,BR,AB,DF,↓reduceIte,Nat.reduceEqDiff,oGs,bNf,enP,f5,f6]
     refine CW (fun hc => ?_) (fun hc => ?_)
     ·have hk':k < i:=by simpa using hc
      have hk2:k < m.pts.length:=by omega
      have hs:=KF (fun u=>m.pts[i].name.toList == u.toList) (N.take i) k (by rw [List.length_take]; omega)
      have hx:(N.take i)[k]'(by rw [List.length_take]; omega)=m.pts[k].name:=by
       rw [List.getElem_take]; exact H9 (hNi k hk2)
      rw [hx] at hs
      simp -implicitDefEqProofs only [BC,BQ,BO,A8]
      refine FD (by kernel_rfl) ?_
      simp -implicitDefEqProofs only [F9,EH,DX,FC,EM,FP,FQ,JA,EG,ED,BI,A8,AO,AA,A7,BV,BR,BK,CG,AB,LC,↓reduceIte,Nat.reduceEqDiff,Nat.reduceAdd,Nat.add_zero,oGs,enP,PY,IX,AF5,f1,f5,f6,lm0,D5 hi',D5 hk2,DT ag9 hi',DT ag9 hk2,AML]
      refine CW (fun hb => ?_) (fun hb => ?_)
      ·simp -implicitDefEqProofs only [BC,BA,BL,A8,CP,D8,MR,FB,AY,BB,AO,AQ,AL,BD,AX,AC,AA,AU,BH,AZ,↓reduceIte,oGs,bNf]
       have:IG (N.take i) m.pts[i].name=true:=by
        rw [hin]; unfold IG; rw [hs,BEq.comm,hb]; rfl
       exact ⟨trivial,trivial,by rw [hd,hdrop,this]; rfl⟩
      ·simp -implicitDefEqProofs only [BA,BO,A8,EF,ER,AY,BB,AO,AQ,AL,BD,AX,AC,AA,A7,AU,BH,BG,AZ,BR,AB,DI,↓reduceIte,Nat.reduceEqDiff,oGs,bNf,enP,f6,wrap_succ (show k < 9223372036854775807 by omega)]
       refine ⟨n' - 1,by omega,k+1,by omega,f1,f5,rfl,trivial,?_⟩
       rw [hin]; unfold IG; rw [hs,BEq.comm,hb]; rfl
     ·have hk' : ¬ k < i:=by simpa using hc
      simp -implicitDefEqProofs only [DL,EC,KG,EW,AA,↓reduceIte,Nat.reduceEqDiff]
      refine ⟨f1,f5,trivial,?_⟩
      rw [hin,List.drop_eq_nil_of_le (by rw [List.length_take]; omega)]; rfl
    ·rintro F' H' ⟨g1,g5,rfl,hn⟩
     simp -implicitDefEqProofs only [BA,A8,EF,EY,ER,AY,BB,AO,AQ,AL,BD,AX,AC,AA,A7,AU,BH,BG,AZ,BR,AB,DI,↓reduceIte,Nat.reduceEqDiff,oGs,bNf,enP,g5,wrap_succ (show i < 9223372036854775807 by omega)]
     refine ⟨n - 1,by omega,i+1,by omega,g1,rfl,trivial,?_⟩
     rw [hd,hdrop,hn]; rfl
    ·rintro F' H' ⟨g2,rfl,hdd⟩
     simp -implicitDefEqProofs only [CP,D8,MR,FB,g2]
     exact ⟨by rw [hme,hdd]; rfl,trivial⟩
   ·have hi' : ¬ i < m.pts.length:=by simpa using hc
    simp -implicitDefEqProofs only [DL,EC,KG,EW,AA,↓reduceIte,Nat.reduceEqDiff]
    exact ⟨f1,trivial,by rw [hd,List.drop_eq_nil_of_le (by omega)]; rfl⟩
  ·clear f1
   rintro F H ⟨f1,rfl,hd⟩
   rw [hd] at hme
   simp only [Bool.false_eq_true,if_false] at hme
   simp -implicitDefEqProofs only [BC,BQ,BA,A8,EY,AY,BB,AO,AQ,AL,BD,AX,AC,AU,BH,AZ,↓reduceIte,oGs,bNf]
   refine G9 6 (fun F H'=>F 1 = .ptr h.length 0 0∧H'=H∧JG (H8 m) m.crs=0) (fun F H'=>F 2 = .int .i64 (GN m)∧H'=H) ?_ ?_ ?_
   ·refine DR (fun n F H' => ∃ k,n+k=m.crs.length∧F 1 = .ptr h.length 0 0∧F 7 = .int .i64 (k:Nat)∧H'=H∧JG (H8 m) m.crs=JG (H8 m) (m.crs.drop k)) m.crs.length ⟨0,by simp,by simp -implicitDefEqProofs only [AA,↓reduceIte,Nat.reduceEqDiff,f1],by simp -implicitDefEqProofs only [AA,↓reduceIte]; rfl,rfl,rfl⟩ ?_
    clear f1
    rintro n F H' ⟨k,hk,f1,f7,rfl,hf⟩
    simp -implicitDefEqProofs only [BC,BA,BI,A8,AY,BB,AO,AQ,AL,BD,AX,AC,AA,A7,BG,BV,BR,BK,D6,AB,DF,↓reduceIte,Nat.reduceEqDiff,Nat.zero_add,oGs,bNf,enP,VQ,JZ,f1,f7,lm1,lLm]
    refine CW (fun hc => ?_) (fun hc => ?_)
    ·have hk':k < m.crs.length:=by simpa using hc
     have hs:=NU (H8 m) m.crs k hk'
     simp -implicitDefEqProofs only [BC,BQ,BO,A8]
     refine FD (by kernel_rfl) ?_
     simp -implicitDefEqProofs only [F9,EH,DX,FC,EM,FP,J8,FQ,EG,ED,GV,GI,BC,BA,A8,AY,AO,AQ,AL,BD,AX,AC,AA,A7,AU,BX,BH,BG,BV,BR,BK,CG,AB,lMc,lMn,lAn,↓reduceIte,Nat.reduceEqDiff,Nat.reduceAdd,Nat.zero_add,oGs,bNf,enP,ZA,JZ,f1,f7,lm1,ldM gm,D5 hk',FO AAX XK JX hk']
     refine ⟨_,AN5 G m m.crs[k] (hm.crs _ (List.getElem_mem hk')) hfull _,?_⟩
     try simp -implicitDefEqProofs only [BI,A8,BB,AC,AA,A7,AB,EJ,↓reduceIte]
     refine CW (fun hv => ?_) (fun hv => ?_)
     ·simp -implicitDefEqProofs only [BC,BA,BL,A8,CP,D8,MR,FB,AY,BB,AO,AQ,AL,BD,AX,AC,AA,A7,BG,AZ,↓reduceIte,Nat.reduceEqDiff,oGs,bNf]
      have hv':H8 m m.crs[k]≠0:=by simpa using hv
      have:JG (H8 m) m.crs=H8 m m.crs[k]:=by rw [hf,hs,if_neg hv']
      exact ⟨by rw [hme,this,if_pos hv'],trivial⟩
     ·have hv':H8 m m.crs[k]=0:=by simpa using hv
      simp -implicitDefEqProofs only [BA,BO,A8,EF,ER,AY,BB,AO,AQ,AL,BD,AX,AC,AA,A7,AU,BH,BG,AZ,BR,AB,DI,↓reduceIte,Nat.reduceEqDiff,oGs,bNf,enP,f7,wrap_succ (show k < 9223372036854775807 by omega)]
      exact ⟨n - 1,by omega,k+1,by omega,f1,rfl,trivial,by rw [hf,hs,if_pos hv']⟩
    ·have hk' : ¬ k < m.crs.length:=by simpa using hc
     simp -implicitDefEqProofs only [DL,EC,KG,EW,AA,↓reduceIte,Nat.reduceEqDiff]
     exact ⟨f1,trivial,by rw [hf,List.drop_eq_nil_of_le (by omega)]; rfl⟩
   ·rintro F H' ⟨f1,rfl,hf⟩
    rw [hf,if_neg (fun hh=>hh rfl)] at hme
    simp -implicitDefEqProofs only [BC,BQ,BA,A8,EY,AY,BB,AO,AQ,AL,BD,AX,AC,AU,BH,AZ,↓reduceIte,oGs,bNf]
    generalize hN:m.crs.map (·.name)=N at hme
    have hNl:N.length=m.crs.length:=by rw [← hN]; simp
    have hNi : ∀ i (hi:i < m.crs.length),N[i]? = some m.crs[i].name:=fun i hi=>by rw [← hN,List.getElem?_map,List.getElem?_eq_getElem hi]; rfl
    refine DR (fun n F H => ∃ i,n+i=m.crs.length∧F 1 = .ptr h.length 0 0∧F 9 = .int .i64 (i:Nat)∧H=H'∧OJ N=ADU (N.take i) (N.drop i)) m.crs.length ⟨0,by simp,by simp -implicitDefEqProofs only [AA,↓reduceIte,Nat.reduceEqDiff,f1],by simp -implicitDefEqProofs only [AA,↓reduceIte]; rfl,rfl,rfl⟩ ?_
    clear f1
    rintro n F H' ⟨i,hi,f1,f9,rfl,hd⟩
    simp -implicitDefEqProofs only [BC,BA,BI,A8,AY,BB,AO,AQ,AL,BD,AX,AC,AA,A7,BG,BV,BR,BK,D6,AB,DF,↓reduceIte,Nat.reduceEqDiff,Nat.zero_add,oGs,bNf,enP,VQ,JZ,f1,f9,lm1,lLm]
    refine CW (fun hc => ?_) (fun hc => ?_)
    ·have hi':i < m.crs.length:=by simpa using hc
     have hdrop:=QA N i (by omega)
     rw [H9 (hNi i hi')] at hdrop
     simp -implicitDefEqProofs only [BC,BQ,BA,BO,A8,AY,BB,AO,AQ,AL,BD,AX,AC,AU,BH,AZ,oGs,bNf,f9]
     refine G9 10 (fun F' H=>F' 1 = .ptr h.length 0 0∧F' 9 = .int .i64 (i:Nat)∧H=H'∧IG (N.take i) m.crs[i].name=false) (fun F' H=>F' 2 = .int .i64 8∧H=H'∧OJ N=true) ?_ ?_ ?_
     ·refine DR (fun n F' H => ∃ k,n+k=i∧F' 1 = .ptr h.length 0 0∧F' 9 = .int .i64 (i:Nat)∧F' 10 = .int .i64 (k:Nat)∧H=H'∧IG (N.take i) m.crs[i].name=IG ((N.take i).drop k) m.crs[i].name) i ⟨0,by simp,by simp -implicitDefEqProofs only [AA,↓reduceIte,Nat.reduceEqDiff,f1],by simp -implicitDefEqProofs only [AA,↓reduceIte,Nat.reduceEqDiff,f9],by simp -implicitDefEqProofs only [AA,↓reduceIte]; rfl,rfl,rfl⟩ ?_
      clear f1 f9
      rintro n' F H' ⟨k,hk,f1,f9,f10,rfl,hin⟩
      simp -implicitDefEqProofs only [BC,BA,BI,A8,AY,BB,AO,AQ,AL,BD,AX,AC,AA,A7,BG,BR,AB,DF,↓reduceIte,Nat.reduceEqDiff,oGs,bNf,enP,f9,f10]
      refine CW (fun hc => ?_) (fun hc => ?_)
      ·have hk':k < i:=by simpa using hc
       have hk2:k < m.crs.length:=by omega
       have hs:=KF (fun u=>m.crs[i].name.toList == u.toList) (N.take i) k (by rw [List.length_take]; omega)
       have hx:(N.take i)[k]'(by rw [List.length_take]; omega)=m.crs[k].name:=by
        rw [List.getElem_take]; exact H9 (hNi k hk2)
       rw [hx] at hs
       simp -implicitDefEqProofs only [BC,BQ,BO,A8]
       refine FD (by kernel_rfl) ?_
       simp -implicitDefEqProofs only [F9,EH,DX,FC,EM,FP,FQ,JA,EG,ED,BI,A8,AO,AA,A7,BV,BR,BK,CG,AB,LC,↓reduceIte,Nat.reduceEqDiff,Nat.reduceAdd,Nat.add_zero,Nat.zero_add,oGs,enP,ZA,JZ,AF4,f1,f9,f10,lm1,D5 hi',D5 hk2,DT ag9 hi',DT ag9 hk2,AMO]
       refine CW (fun hb => ?_) (fun hb => ?_)
       ·simp -implicitDefEqProofs only [BC,BA,BL,A8,CP,D8,MR,FB,AY,BB,AO,AQ,AL,BD,AX,AC,AA,AU,BH,AZ,↓reduceIte,oGs,bNf]
        have:IG (N.take i) m.crs[i].name=true:=by
         rw [hin]; unfold IG; rw [hs,BEq.comm,hb]; rfl
        exact ⟨trivial,trivial,by rw [hd,hdrop,this]; rfl⟩
       ·simp -implicitDefEqProofs only [BA,BO,A8,EF,ER,AY,BB,AO,AQ,AL,BD,AX,AC,AA,A7,AU,BH,BG,AZ,BR,AB,DI,↓reduceIte,Nat.reduceEqDiff,oGs,bNf,enP,f10,wrap_succ (show k < 9223372036854775807 by omega)]
        refine ⟨n' - 1,by omega,k+1,by omega,f1,f9,rfl,trivial,?_⟩
        rw [hin]; unfold IG; rw [hs,BEq.comm,hb]; rfl
      ·have hk' : ¬ k < i:=by simpa using hc
       simp -implicitDefEqProofs only [DL,EC,KG,EW,AA,↓reduceIte,Nat.reduceEqDiff]
       refine ⟨f1,f9,trivial,?_⟩
       rw [hin,List.drop_eq_nil_of_le (by rw [List.length_take]; omega)]; rfl
     ·rintro F' H' ⟨g1,g9,rfl,hn⟩
      simp -implicitDefEqProofs only [BA,A8,EF,EY,ER,AY,BB,AO,AQ,AL,BD,AX,AC,AA,A7,AU,BH,BG,AZ,BR,AB,DI,↓reduceIte,Nat.reduceEqDiff,oGs,bNf,enP,g9,wrap_succ (show i < 9223372036854775807 by omega)]
      refine ⟨n - 1,by omega,i+1,by omega,g1,rfl,trivial,?_⟩
      rw [hd,hdrop,hn]; rfl
     ·rintro F' H' ⟨g2,rfl,hdd⟩
      simp -implicitDefEqProofs only [CP,D8,FB,CJ,g2]
      exact ⟨by rw [hme,hdd]; rfl,hx⟩
    ·have hi' : ¬ i < m.crs.length:=by simpa using hc
     simp -implicitDefEqProofs only [BC,BA,BL,DL,A8,EC,EY,EW,CJ,AY,BB,AO,AQ,AL,BD,AX,AC,AA,AU,BH,AZ,↓reduceIte,oGs,bNf]
     exact ⟨by rw [hme,hd,List.drop_eq_nil_of_le (by omega)]; rfl,hx⟩
   ·rintro F H' ⟨f2,rfl⟩
    simp -implicitDefEqProofs only [CP,D8,CJ,f2]
    exact ⟨trivial,hx⟩
  ·rintro F H ⟨f2,rfl⟩
   simp -implicitDefEqProofs only [CP,D8,CJ,f2]
   exact ⟨trivial,hx⟩
 ·rintro F H' ⟨f2,rfl⟩
  simp -implicitDefEqProofs only [CP,D8,CJ,f2]
  exact ⟨trivial,hx⟩
def eqL (a b:List Int):Bool:=decide (a=b)
theorem AIK {a b:List Int} {k:Nat} (ha:k < a.length) (hb:k < b.length):eqL (a.drop k) (b.drop k)=(decide (a[k]=b[k]) && eqL (a.drop (k+1)) (b.drop (k+1))):=by
 rw [List.drop_eq_getElem_cons ha,List.drop_eq_getElem_cons hb]
 unfold eqL
 rw [decide_eq_decide.2 (Iff.of_eq (List.cons.injEq _ _ _ _)),Bool.decide_and]
theorem AKG (G:Nat→AV) (a b:List Int) (s t:SM) (h:Hp) (hl:b.length≤1099511627776):PCall (En G) 188 [.sl s 1 (a.map encI),.sl t 1 (b.map encI)] h (.bool (eqL a b)):=by
 refine CB (H:=Hint.none) (enM G) Tryz.func188 rfl (by kernel_rfl) (by kernel_rfl) (nLb (by kernel_rfl)) ?_
 show awp _ _ _ _ _ (EE _ [.tmp 4] _)
 simp -implicitDefEqProofs only [BC,BA,BI,A8,AY,BB,AO,AQ,AL,BD,AX,AC,AA,A7,AU,BM,BG,AZ,BR,D6,AB,EJ,BF,BN,↓reduceIte,Nat.reduceEqDiff,oGs,bNf,enP,JB,lLm]
 refine CW (fun h1 => ?_) (fun h1 => ?_)
 ·simp -implicitDefEqProofs only [BC,BA,BL,A8,CP,CJ,AY,BB,AO,AQ,AL,BD,AX,AC,AA,AU,BM,AZ,↓reduceIte,oGs,bNf]
  have:eqL a b=false:=by
   unfold eqL; rw [decide_eq_false_iff_not]; intro e; subst e; simp at h1
  exact ⟨by rw [this],trivial⟩
 have hab:a.length=b.length:=by simp at h1; omega
 simp -implicitDefEqProofs only [BC,BQ,BA,BO,A8,AY,BB,AO,AQ,AL,BD,AX,AC,AA,A7,AU,BH,BG,D6,AB,BF,↓reduceIte,Nat.reduceEqDiff,oGs,bNf,enP,JB,lLm]
 refine DR (fun n F H => ∃ k,n+k=a.length∧F 0 = .sl s 1 (a.map encI)∧F 1 = .sl t 1 (b.map encI)∧F 12 = .int .i64 a.length∧F 13 = .int .i64 (k:Nat)∧H=h∧eqL a b=eqL (a.drop k) (b.drop k)) a.length ⟨0,by simp,by simp -implicitDefEqProofs only [AA,BF,↓reduceIte,Nat.reduceEqDiff],by simp -implicitDefEqProofs only [AA,BF,BN,↓reduceIte,Nat.reduceEqDiff],by simp -implicitDefEqProofs only [AA,↓reduceIte,Nat.reduceEqDiff],by simp -implicitDefEqProofs only [AA,↓reduceIte]; rfl,rfl,rfl⟩ ?_
 rintro n F H ⟨k,hk,f0,f1,f12,f13,rfl,hi⟩
 simp -implicitDefEqProofs only [BC,BA,BI,A8,AY,BB,AO,AQ,AL,BD,AX,AC,AA,A7,BR,AB,DF,↓reduceIte,oGs,bNf,enP,f12,f13]
 refine CW (fun hc => ?_) (fun hc => ?_)
 ·have hk':k < a.length:=by simpa using hc
  have hkb:k < b.length:=by omega
  rw [AIK hk' hkb] at hi
  simp -implicitDefEqProofs only [BC,BQ,BA,BO,A8,AY,BB,AO,AQ,AL,BD,AX,AC,AA,A7,BG,AZ,↓reduceIte,Nat.reduceEqDiff,oGs,bNf,f13]
  refine FD (by kernel_rfl) ?_
  simp -implicitDefEqProofs only [F9,EH,DX,FC,EM,FP,FQ,JA,ED,BI,A8,AO,AA,A7,BV,BR,CG,AB,EJ,↓reduceIte,Nat.reduceEqDiff,Nat.reduceAdd,oGs,enP,JH,f0,f1,f13,D5 hk',D5 hkb,DT ag3 hk',DT ag3 hkb,encI0]
  refine CW (fun hd => ?_) (fun hd => ?_)
  ·simp -implicitDefEqProofs only [BC,BA,BL,A8,CP,D8,FB,CJ,AY,BB,AO,AQ,AL,BD,AX,AC,AA,AU,BM,AZ,↓reduceIte,oGs,bNf]
   have:decide (a[k]=b[k])=false:=by simpa using hd
   exact ⟨by rw [hi,this]; rfl,trivial⟩
  ·simp -implicitDefEqProofs only [BA,BO,A8,EF,ER,AY,BB,AO,AQ,AL,BD,AX,AC,AA,A7,AU,BH,BG,BR,AB,DI,↓reduceIte,Nat.reduceEqDiff,oGs,bNf,enP,f13,wrap_succ (show k < 9223372036854775807 by omega)]
   have:decide (a[k]=b[k])=true:=by simpa using hd
   exact ⟨n - 1,by omega,k+1,by omega,f0,f1,f12,rfl,trivial,by rw [hi,this]; rfl⟩
 ·have hk' : ¬ k < a.length:=by simpa using hc
  simp -implicitDefEqProofs only [BC,BA,BL,DL,A8,EC,EY,EW,CJ,AY,BB,AO,AQ,AL,BD,AX,AC,AA,AU,BM,AZ,↓reduceIte,oGs,bNf]
  exact ⟨by rw [hi,List.drop_eq_nil_of_le (by omega),List.drop_eq_nil_of_le (by omega)]; rfl,trivial⟩
theorem ABQ (G:Nat→AV) (a b:List Int) (s t:SM) (h:Hp) (hl:b.length≤1099511627776):PCall (En G) 148 [.sl s 1 (a.map encI),.sl t 1 (b.map encI)] h (.bool (eqL a b)):=by
 refine CB (H:=Hint.none) (enM G) Tryz.func148 rfl (by kernel_rfl) (by kernel_rfl) (nLb (by kernel_rfl)) ?_
 show awp _ _ _ _ _ (EE _ [.tmp 4] _)
 simp -implicitDefEqProofs only [BC,BA,BI,A8,AY,BB,AO,AQ,AL,BD,AX,AC,AA,A7,AU,BM,BG,AZ,BR,D6,AB,EJ,BF,BN,↓reduceIte,Nat.reduceEqDiff,oGs,bNf,enP,JB,lLm]
 refine CW (fun h1 => ?_) (fun h1 => ?_)
 ·simp -implicitDefEqProofs only [BC,BA,BL,A8,CP,CJ,AY,BB,AO,AQ,AL,BD,AX,AC,AA,AU,BM,AZ,↓reduceIte,oGs,bNf]
  have:eqL a b=false:=by
   unfold eqL; rw [decide_eq_false_iff_not]; intro e; subst e; simp at h1
  exact ⟨by rw [this],trivial⟩
 have hab:a.length=b.length:=by simp at h1; omega
 simp -implicitDefEqProofs only [BC,BQ,BA,BO,A8,AY,BB,AO,AQ,AL,BD,AX,AC,AU,BH,AZ,oGs,bNf]
 refine DR (fun n F H => ∃ k,n+k=a.length∧F 0 = .sl s 1 (a.map encI)∧F 1 = .sl t 1 (b.map encI)∧F 5 = .int .i64 (k:Nat)∧H=h∧eqL a b=eqL (a.drop k) (b.drop k)) a.length ⟨0,by simp,by simp -implicitDefEqProofs only [AA,BF,↓reduceIte,Nat.reduceEqDiff],by simp -implicitDefEqProofs only [AA,BF,BN,↓reduceIte,Nat.reduceEqDiff],by simp -implicitDefEqProofs only [AA,↓reduceIte]; rfl,rfl,rfl⟩ ?_
 rintro n F H ⟨k,hk,f0,f1,f5,rfl,hi⟩
 simp -implicitDefEqProofs only [BC,BA,BI,A8,AY,BB,AO,AQ,AL,BD,AX,AC,AA,A7,BG,BR,D6,AB,DF,↓reduceIte,Nat.reduceEqDiff,oGs,bNf,enP,JB,f0,f5,lLm]
 refine CW (fun hc => ?_) (fun hc => ?_)
 ·have hk':k < a.length:=by simpa using hc
  have hkb:k < b.length:=by omega
  rw [AIK hk' hkb] at hi
  simp -implicitDefEqProofs only [BC,BQ,BO,A8]
  refine FD (by kernel_rfl) ?_
  simp -implicitDefEqProofs only [F9,EH,DX,FC,EM,FP,FQ,JA,ED,BI,A8,AO,AA,A7,BV,BR,CG,AB,EJ,↓reduceIte,Nat.reduceEqDiff,Nat.reduceAdd,oGs,enP,JH,f0,f1,f5,D5 hk',D5 hkb,DT ag3 hk',DT ag3 hkb,encI0]
  refine CW (fun hd => ?_) (fun hd => ?_)
  ·simp -implicitDefEqProofs only [BC,BA,BL,A8,CP,D8,FB,CJ,AY,BB,AO,AQ,AL,BD,AX,AC,AA,AU,BM,AZ,↓reduceIte,oGs,bNf]
   have:decide (a[k]=b[k])=false:=by simpa using hd
   exact ⟨by rw [hi,this]; rfl,trivial⟩
  ·simp -implicitDefEqProofs only [BA,BO,A8,EF,ER,AY,BB,AO,AQ,AL,BD,AX,AC,AA,A7,AU,BH,BG,AZ,BR,AB,DI,↓reduceIte,Nat.reduceEqDiff,oGs,bNf,enP,f5,wrap_succ (show k < 9223372036854775807 by omega)]
   have:decide (a[k]=b[k])=true:=by simpa using hd
   exact ⟨n - 1,by omega,k+1,by omega,f0,f1,rfl,trivial,by rw [hi,this]; rfl⟩
 ·have hk' : ¬ k < a.length:=by simpa using hc
  simp -implicitDefEqProofs only [BC,BA,BL,DL,A8,EC,EY,EW,CJ,AY,BB,AO,AQ,AL,BD,AX,AC,AA,AU,BM,AZ,↓reduceIte,oGs,bNf]
  exact ⟨by rw [hi,List.drop_eq_nil_of_le (by omega),List.drop_eq_nil_of_le (by omega)]; rfl,trivial⟩
def IR (n:Int):Bool:=decide (0≤n) && decide (n≤1099511627776)
def countB (n:Int) (may:Bool):Bool:=IR n && (may || n == 0)
theorem SL (G:Nat→AV) (n:Int) (h:Hp):PCall (En G) 88 [.int .i64 n] h (.bool (IR n)):=by
 refine CB (H:=Hint.none) (enM G) Tryz.func88 rfl (by kernel_rfl) (by kernel_rfl) (nLb (by kernel_rfl)) ?_
 show awp _ _ _ _ _ (EE _ [.tmp 2] _)
 simp -implicitDefEqProofs only [BC,BA,A8,AY,BB,BJ,BP,CO,AO,AQ,AL,BD,AX,AC,AA,A7,AU,BH,BM,BG,AZ,BR,AB,GZ,BF,↓reduceIte,Nat.reduceEqDiff,oGs,bNf,enP]
 cases ha:decide (n≥0)
 all_goals
  simp -implicitDefEqProofs only [BL,A8,CJ,AY,BB,BJ,BP,CO,FY,H7,AO,AQ,AL,BD,AX,AC,AA,EQ,A7,AU,BH,BM,BG,AZ,CQ,DN,DK,BR,AB,IE,BF,↓reduceIte,Nat.reduceEqDiff,oGs,bNf,enP,ha]
  exact ⟨by unfold IR; rw [show decide (0≤n)=decide (n≥0) from rfl,ha]; rfl,trivial⟩
theorem TE (G:Nat→AV) (n:Int) (may:Bool) (h:Hp):PCall (En G) 126 [.int .i64 n,.bool may] h (.bool (countB n may)):=by
 refine CB (H:=Hint.none) (enM G) Tryz.func126 rfl (by kernel_rfl) (by kernel_rfl) (nLb (by kernel_rfl)) ?_
 show awp _ _ _ _ _ (EE _ [.tmp 4] _)
 simp -implicitDefEqProofs only [BC,BA,A8,AY,BB,BJ,BP,CO,AO,AQ,AL,BD,AX,AC,AA,A7,AU,BH,BM,BG,AZ,BR,AB,GZ,BF,↓reduceIte,Nat.reduceEqDiff,oGs,bNf,enP]
 cases ha:decide (n≥0) <;> cases hb:decide (n≤1099511627776) <;> cases may
 all_goals
  simp -implicitDefEqProofs only [BL,A8,CJ,AY,BB,BJ,BP,CO,FY,EK,H7,FK,QN,AO,AQ,AL,BD,AX,AC,AA,EQ,A7,AU,BH,BM,BG,AZ,CQ,DN,DK,BR,AB,DY,IE,BF,BN,↓reduceIte,Nat.reduceEqDiff,oGs,bNf,enP,ha,hb]
  exact ⟨by unfold countB IR; rw [show decide (0≤n)=decide (n≥0) from rfl,ha,hb]; rfl,trivial⟩
theorem AAI (G:Nat→AV) (b:Bin) (h:Hp):PCall (En G) 179 [.agg (GM b)] h (.bool (b.kind == 0)):=by
 refine ACalls.pure0 rfl ?_
 refine CB (H:=Hint.none) (enM G) Tryz.func179 rfl (by kernel_rfl) (by kernel_rfl) (nLb (by kernel_rfl)) ?_
 show awp _ _ _ _ _ (EE _ [.tmp 2] _)
 simp -implicitDefEqProofs only [BC,BA,BL,A8,CJ,AY,BB,AO,AQ,AL,BD,AX,AC,AA,A7,AU,BH,BM,AZ,FV,BV,BR,BK,CE,AB,DY,BF,↓reduceIte,Nat.reduceEqDiff,Nat.zero_add,oGs,bNf,enP,MW,bxB,DC ag3,UT]
 exact ⟨trivial,_,rfl⟩
def Y9 (m:Mo) (p b:Int):Int:=match (JI m p)[b.toNat]? with
 | some x=>x.kind
 | none=>0
def PO (m:Mo):List Int→List Int→Bool
 | p :: ps,b :: bs=>(Y9 m p b == 0) && PO m ps bs
 | _,_=>true
def RU (m:Mo) (c:Cr) (l:List Int):Bool:=PO m c.pts l && !(c.excl.any fun x=>eqL x.l l)
theorem AFV {m:Mo} : ∀ {ps l:List Int},MS (szs m ps) l=true→∀ (k:Nat) (hk:k < l.length) (hp:k < ps.length),0≤l[k]∧l[k] < ((JI m ps[k]).length:Int)
 | p :: ps,b :: bs,h,k,hk,hp=>by
   simp only [szs,lMc,MS,Bool.and_eq_true,decide_eq_true_eq] at h
   cases k with
   | zero=>exact h.1
   | succ k=>exact AFV (m:=m) (ps:=ps) h.2 k (by simpa using hk) (by simpa using hp)
 | [],b :: bs,h,k,hk,hp=>by simp at hp
 | _,[],h,k,hk,hp=>by simp at hk
theorem AAA (m:Mo) (ps l:List Int) (k:Nat) (hp:k < ps.length) (hk:k < l.length):PO m (ps.drop k) (l.drop k)=((Y9 m ps[k] l[k] == 0) && PO m (ps.drop (k+1)) (l.drop (k+1))):=by
 rw [List.drop_eq_getElem_cons hp,List.drop_eq_getElem_cons hk]; rfl
theorem AB4 (m:Mo) (ps:List Int):PO m ps []=true:=by cases ps <;> rfl
theorem ARF {m:Mo} {p b:Int} (h0:0≤b) (h1:b < ((JI m p).length:Int)) (h:Hp) (s:SM):JR 4 h (.sl s 4 ((JI m p).map GM)) (.int .i64 b)=some (.fptr 4 ((JI m p).map GM) b.toNat 0) :=
 AEJ h0 (by rw [lLm]; exact h1)
theorem AIZ {m:Mo} {p b:Int} (h0:0≤b) (h1:b < ((JI m p).length:Int)):((JI m p)[b.toNat]'(by omega)).kind=Y9 m p b:=by
 unfold Y9; rw [List.getElem?_eq_getElem (by omega)]
theorem ATW (G:Nat→AV) (l:List Int) (s:SM) (b:Nat) (r:Is) (h:Hp) (hb:h[b]? = some (.live 1 [[.sl s 1 (l.map encI)]])) (hl:l.length≤1099511627776) :
  PCall (En G) 221 [.sl r.m 1 (r.l.map encI),.ptr b 0 0] h (.bool (eqL r.l l)):=by
 refine CB (H:=Hint.none) (enM G) Tryz.func221 rfl (by kernel_rfl) (by kernel_rfl) (nLb (by kernel_rfl)) ?_
 show awp _ _ _ _ _ (EE _ [.tmp 3] _)
 simp -implicitDefEqProofs only [BC,BA,A8,AY,BB,AO,AQ,AL,BD,AX,AC,AA,A7,AU,BX,BM,BG,AZ,BV,BZ,BU,AB,BF,BN,lMc,lMn,lAn,↓reduceIte,Nat.reduceEqDiff,oGs,bNf,enP,JP LD hb]
 refine (AKG G r.l l r.m s h hl).use ?_
 simp -implicitDefEqProofs only [BL,A8,CJ,AY,BB,AO,AQ,AL,BD,AX,AC,AA,A7,AZ,↓reduceIte,oGs,bNf]
 exact ⟨trivial,trivial⟩
theorem Two.app {h H:Hp} {m:Mo} {c:Cr} {cb:Nat} (t:Two h H m c cb) (x:Hp):Two h (H ++ x) m c cb:=by
 obtain ⟨y,hy⟩:=t.hx
 exact ⟨FU t.gm,FU t.gc,⟨y ++ x,by rw [hy,List.append_assoc]⟩⟩
theorem VY (G:Nat→AV) (m:Mo) (c:Cr) (l:List Int) (s:SM) (h:Hp) (hh:Here m c.pts) (hi:MS (szs m c.pts) l=true) (hl:c.pts.length≤1048576) (hx:c.excl.length≤1048576):PCall (En G) 169 [.agg (EN m),.agg (F7 c),.sl s 1 (l.map encI)] h (.bool (RU m c l)):=by
 refine ACalls.pure0 rfl ?_
 have hlen:l.length=c.pts.length:=by have:=RS hi; rw [NF] at this; omega
 refine CB (H:=Hint.none) (enM G) Tryz.func169 rfl (by kernel_rfl) (by kernel_rfl) (nLb (by kernel_rfl)) ?_
 show awp _ _ _ _ _ (EE _ [.tmp 6] _)
 have t:=(Two.mk' h m c).app [.live 1 [[.sl s 1 (l.map encI)]]]
 have gl:=CY (h ++ [ABlk.live 2 [EN m]] ++ [ABlk.live 3 [F7 c]]) (.live 1 [[.sl s 1 (l.map encI)]])
 simp -implicitDefEqProofs only [ARA,BC,BA,A8,AY,BB,AO,AQ,AL,BD,AX,AC,AA,A7,AU,BM,AZ,FV,BV,CE,BF,BN,↓reduceIte,Nat.reduceEqDiff,oGs,bNf,enP,bxM,bxC]
 generalize h ++ [ABlk.live 2 [EN m]] ++ [ABlk.live 3 [F7 c]] ++ [ABlk.live 1 [[.sl s 1 (l.map encI)]]]=H at t gl ⊢
 generalize (h ++ [ABlk.live 2 [EN m]] ++ [ABlk.live 3 [F7 c]]).length=lb at gl ⊢
 generalize (h ++ [ABlk.live 2 [EN m]]).length=cb at t ⊢
 simp -implicitDefEqProofs only [BQ,A8,AY,BB,AO,AQ,AL,BD,AX,AC,AA,A7,AU,BH,BG,D6,AB,↓reduceIte,oGs,bNf,enP,JB,JP LD gl,lLm]
 have hkb:=AAA m c.pts l
 refine G9 0 (fun F H'=>F 4 = .ptr cb 0 0∧F 5 = .ptr lb 0 0∧H'=H∧PO m c.pts l=true) (fun F H'=>F 6 = .bool false∧H'=H∧PO m c.pts l=false) ?_ ?_ ?_
 ·refine DR (fun n F H' => ∃ k,n+k=l.length∧F 3 = .ptr h.length 0 0∧F 4 = .ptr cb 0 0∧F 5 = .ptr lb 0 0∧F 9 = .sl s 1 (l.map encI)∧F 10 = .int .i64 l.length∧F 11 = .int .i64 (k:Nat)∧H'=H∧PO m c.pts l=PO m (c.pts.drop k) (l.drop k)) l.length ⟨0,by simp,by simp -implicitDefEqProofs only [AA,↓reduceIte,Nat.reduceEqDiff],by simp -implicitDefEqProofs only [AA,↓reduceIte,Nat.reduceEqDiff],by simp -implicitDefEqProofs only [AA,↓reduceIte,Nat.reduceEqDiff],by simp -implicitDefEqProofs only [AA,↓reduceIte,Nat.reduceEqDiff],by simp -implicitDefEqProofs only [AA,↓reduceIte,Nat.reduceEqDiff],by simp -implicitDefEqProofs only [AA,↓reduceIte]; rfl,rfl,rfl⟩ ?_
  rintro n F H' ⟨k,hk,f3,f4,f5,f9,f10,f11,rfl,hk0⟩
  simp -implicitDefEqProofs only [BC,BA,BI,A8,AY,BB,AO,AQ,AL,BD,AX,AC,AA,A7,BR,AB,DF,↓reduceIte,oGs,bNf,enP,f10,f11]
  refine CW (fun hc => ?_) (fun hc => ?_)
  ·have hk':k < l.length:=by simpa using hc
   have hkc:k < c.pts.length:=by omega
   rw [hkb k hkc hk'] at hk0
   obtain ⟨h0,h1⟩:=AFV hi k hk' hkc
   obtain ⟨s2,ls⟩:=hh.ld hkc H'
   simp -implicitDefEqProofs only [BC,BQ,BA,BO,A8,AY,BB,AO,AQ,AL,BD,AX,AC,AA,A7,BG,AZ,BV,CG,AB,↓reduceIte,Nat.reduceEqDiff,oGs,bNf,enP,JH,f9,f11,D5 hk',DT ag3 hk',encI0]
   refine FD (by kernel_rfl) ?_
   simp -implicitDefEqProofs only [F9,EH,DX,EM,FP,FQ,ABB,EG,ED,GV,GI,AO,AA,A7,BX,BV,G6,BK,CG,AB,lMc,lMn,lAn,↓reduceIte,Nat.reduceEqDiff,Nat.reduceAdd,Nat.add_zero,Nat.zero_add,oGs,enP,PY,IX,WQ,IW,JH,J9,f3,f4,f11,t.lm,t.l1,D5 hkc,DT ag3 hkc,encI0,hh.ix hkc,ls,ARF h0 h1,FO TN PD LW (show l[k].toNat < (JI m c.pts[k]).length by omega)]
   refine ⟨_,AAI G _ _,?_⟩
   try simp -implicitDefEqProofs only [DX,FC,BI,A8,AA,A7,AB,EX,↓reduceIte]
   rw [AIZ h0 h1]
   cases hkd:(Y9 m c.pts[k] l[k] == 0)
   ·simp -implicitDefEqProofs only [BC,BA,BL,A8,CP,D8,MR,FB,C9,AY,BB,AO,AQ,AL,BD,AX,AC,AA,AU,BM,AZ,↓reduceIte,oGs,bNf]
    exact ⟨trivial,trivial,by rw [hk0,hkd]; rfl⟩
   ·simp -implicitDefEqProofs only [BA,BO,A8,EF,ER,DU,AY,BB,AO,AQ,AL,BD,AX,AC,AA,A7,AU,BH,BG,BR,AB,DI,↓reduceIte,Nat.reduceEqDiff,oGs,bNt,bNf,enP,f11,wrap_succ (show k < 9223372036854775807 by omega)]
    exact ⟨n - 1,by omega,k+1,by omega,f3,f4,f5,f9,f10,rfl,trivial,by rw [hk0,hkd]; rfl⟩
  ·have hk' : ¬ k < l.length:=by simpa using hc
   simp -implicitDefEqProofs only [DL,EC,KG,EW,AA,↓reduceIte,Nat.reduceEqDiff]
   exact ⟨f4,f5,trivial,by rw [hk0,List.drop_eq_nil_of_le (show l.length≤k by omega),AB4]⟩
 ·rintro F H' ⟨f4,f5,rfl,hk⟩
  simp -implicitDefEqProofs only [BC,BA,A8,EY,AY,AO,AQ,AL,BD,AX,AC,AA,A7,BX,BV,I7,BK,BZ,BU,AB,lMc,lMn,lAn,↓reduceIte,Nat.reduceEqDiff,Nat.zero_add,oGs,bNf,enP,TB,f4,f5,t.l2]
  refine (UU G c.excl c.xm 221 _ (fun x=>eqL x.l l) _ (by omega) fun r=>ATW G l s _ r _ gl (by omega)).use ?_
  simp -implicitDefEqProofs only [BL,A8,CJ,AY,BB,AO,AQ,AL,BD,AX,AC,AA,A7,AZ,G6,AB,EX,↓reduceIte,oGs,bNf]
  exact ⟨by unfold RU; rw [hk]; rfl,t.hx⟩
 ·rintro F H' ⟨f6,rfl,hk⟩
  simp -implicitDefEqProofs only [CP,D8,CJ,f6]
  exact ⟨by unfold RU; rw [hk]; rfl,t.hx⟩
theorem ACT (G:Nat→AV) (m:Mo) (c:Cr) (l:List Int) (s:SM) (h:Hp) (hh:Here m c.pts) (hi:MS (szs m c.pts) l=true) (hl:c.pts.length≤1048576) (hx:c.excl.length≤1048576):PCall (En G) 90 [.agg (EN m),.agg (F7 c),.sl s 1 (l.map encI)] h (.bool (RU m c l)):=by
 refine ACalls.pure0 rfl ?_
 have hlen:l.length=c.pts.length:=by have:=RS hi; rw [NF] at this; omega
 refine CB (H:=Hint.none) (enM G) Tryz.func90 rfl (by kernel_rfl) (by kernel_rfl) (nLb (by kernel_rfl)) ?_
 show awp _ _ _ _ _ (EE _ [.tmp 6] _)
 have t:=Two.mk' h m c
 simp -implicitDefEqProofs only [BC,BQ,BA,A8,AY,BB,AO,AQ,AL,BD,AX,AC,AA,A7,AU,BH,BM,AZ,FV,CE,BF,BN,↓reduceIte,Nat.reduceEqDiff,oGs,bNf,enP,bxM,bxC]
 generalize h ++ [ABlk.live 2 [EN m]] ++ [ABlk.live 3 [F7 c]]=H at t ⊢
 generalize (h ++ [ABlk.live 2 [EN m]]).length=cb at t ⊢
 have hkb:=AAA m c.pts l
 refine G9 0 (fun F H'=>F 2 = .sl s 1 (l.map encI)∧F 3 = .ptr h.length 0 0∧F 4 = .ptr cb 0 0∧H'=H∧(c.excl.any fun x=>eqL x.l l)=false) (fun F H'=>F 6 = .bool false∧H'=H∧(c.excl.any fun x=>eqL x.l l)=true) ?_ ?_ ?_
 ·refine DR (fun n F H' => ∃ k,n+k=c.excl.length∧F 2 = .sl s 1 (l.map encI)∧F 3 = .ptr h.length 0 0∧F 4 = .ptr cb 0 0∧F 7 = .int .i64 (k:Nat)∧H'=H∧(c.excl.any fun x=>eqL x.l l)=((c.excl.drop k).any fun x=>eqL x.l l)) c.excl.length ⟨0,by simp,by simp -implicitDefEqProofs only [AA,BF,BN,↓reduceIte,Nat.reduceEqDiff],by simp -implicitDefEqProofs only [AA,↓reduceIte,Nat.reduceEqDiff],by simp -implicitDefEqProofs only [AA,↓reduceIte,Nat.reduceEqDiff],by simp -implicitDefEqProofs only [AA,↓reduceIte]; rfl,rfl,rfl⟩ ?_
  rintro n F H' ⟨k,hk,f2,f3,f4,f7,rfl,ha⟩
  simp -implicitDefEqProofs only [BC,BA,BI,A8,AY,BB,AO,AQ,AL,BD,AX,AC,AA,A7,BG,BV,BR,BK,D6,AB,DF,↓reduceIte,Nat.reduceEqDiff,Nat.zero_add,oGs,bNf,enP,TA,TB,f4,f7,t.l2,lLm]
  refine CW (fun hc => ?_) (fun hc => ?_)
  ·have hk':k < c.excl.length:=by simpa using hc
   have hs:=KF (fun x:Is=>eqL x.l l) c.excl k hk'
   simp -implicitDefEqProofs only [BC,BQ,BA,BO,A8,AY,AO,AQ,AL,BD,AX,AC,AA,A7,BX,BG,BV,BK,CG,BZ,BU,AB,lMc,lMn,lAn,↓reduceIte,Nat.reduceEqDiff,Nat.zero_add,oGs,bNf,enP,NH,TB,f2,f4,f7,t.l2,D5 hk',DT LD hk',NV]
   refine (ABQ G c.excl[k].l l _ s _ (by omega)).use ?_
   simp -implicitDefEqProofs only [BI,A8,BB,AC,AA,A7,↓reduceIte]
   cases he:eqL c.excl[k].l l
   ·simp -implicitDefEqProofs only [BA,BO,A8,EF,ER,DU,AY,BB,AO,AQ,AL,BD,AX,AC,AA,A7,AU,BH,BG,AZ,BR,AB,DI,↓reduceIte,Nat.reduceEqDiff,oGs,bNf,enP,f7,wrap_succ (show k < 9223372036854775807 by omega)]
    exact ⟨n - 1,by omega,k+1,by omega,f2,f3,f4,rfl,trivial,by rw [ha,hs,he]; rfl⟩
   ·simp -implicitDefEqProofs only [BC,BA,BL,A8,CP,D8,MR,FB,C9,AY,BB,AO,AQ,AL,BD,AX,AC,AA,AU,BM,AZ,↓reduceIte,oGs,bNf]
    exact ⟨trivial,trivial,by rw [ha,hs,he]; rfl⟩
  ·have hk' : ¬ k < c.excl.length:=by simpa using hc
   simp -implicitDefEqProofs only [DL,EC,KG,EW,AA,↓reduceIte,Nat.reduceEqDiff]
   exact ⟨f2,f3,f4,trivial,by rw [ha,List.drop_eq_nil_of_le (by omega)]; rfl⟩
 ·rintro F H' ⟨f2,f3,f4,rfl,ha⟩
  have hhb:RU m c l=PO m c.pts l:=by unfold RU; rw [ha]; simp
  rw [hhb]
  simp -implicitDefEqProofs only [BC,BQ,BA,A8,EY,AY,BB,AO,AQ,AL,BD,AX,AC,AU,BH,AZ,↓reduceIte,oGs,bNf]
  refine DR (fun n F H => ∃ k,n+k=l.length∧F 2 = .sl s 1 (l.map encI)∧F 3 = .ptr h.length 0 0∧F 4 = .ptr cb 0 0∧F 8 = .int .i64 (k:Nat)∧H=H'∧PO m c.pts l=PO m (c.pts.drop k) (l.drop k)) l.length ⟨0,by simp,by simp -implicitDefEqProofs only [AA,↓reduceIte,Nat.reduceEqDiff,f2],by simp -implicitDefEqProofs only [AA,↓reduceIte,Nat.reduceEqDiff,f3],by simp -implicitDefEqProofs only [AA,↓reduceIte,Nat.reduceEqDiff,f4],by simp -implicitDefEqProofs only [AA,↓reduceIte]; rfl,rfl,rfl⟩ ?_
  clear f2 f3 f4
  rintro n F H' ⟨k,hk,f2,f3,f4,f8,rfl,hk0⟩
  simp -implicitDefEqProofs only [BC,BA,BI,A8,AY,BB,AO,AQ,AL,BD,AX,AC,AA,A7,BG,BR,D6,AB,DF,↓reduceIte,Nat.reduceEqDiff,oGs,bNf,enP,JB,f2,f8,lLm]
  refine CW (fun hc => ?_) (fun hc => ?_)
  ·have hk':k < l.length:=by simpa using hc
   have hkc:k < c.pts.length:=by omega
   rw [hkb k hkc hk'] at hk0
   obtain ⟨h0,h1⟩:=AFV hi k hk' hkc
   obtain ⟨s2,ls⟩:=hh.ld hkc H'
   have hlt:l[k].toNat < (JI m c.pts[k]).length:=by omega
   simp -implicitDefEqProofs only [BC,BQ,BO,A8]
   refine FD (by kernel_rfl) ?_
   simp -implicitDefEqProofs only [F9,EH,DX,FC,EM,FP,FQ,JA,EG,ED,BI,A8,AO,AA,A7,AU,BH,BV,BR,BK,CG,AB,EJ,↓reduceIte,Nat.reduceEqDiff,Nat.reduceAdd,Nat.add_zero,Nat.zero_add,oGs,enP,PY,IX,WQ,IW,JH,J9,MW,bne,f2,f3,f4,f8,t.lm,t.l1,D5 hkc,DT ag3 hkc,D5 hk',DT ag3 hk',encI0,hh.ix hkc,ls,ARF h0 h1,DT ag3 hlt,UT,AIZ h0 h1]
   cases hkd:(Y9 m c.pts[k] l[k] == 0)
   ·simp -implicitDefEqProofs only [BC,BA,BL,A8,CP,D8,FB,CJ,C9,AY,BB,AO,AQ,AL,BD,AX,AC,AA,AU,BM,AZ,↓reduceIte,oGs,bNf]
    exact ⟨by rw [hk0,hkd]; rfl,t.hx⟩
   ·simp -implicitDefEqProofs only [BA,BO,A8,EF,ER,DU,AY,BB,AO,AQ,AL,BD,AX,AC,AA,A7,AU,BH,BG,AZ,BR,AB,DI,↓reduceIte,Nat.reduceEqDiff,oGs,bNt,bNf,enP,f8,wrap_succ (show k < 9223372036854775807 by omega)]
    exact ⟨n - 1,by omega,k+1,by omega,f2,f3,f4,rfl,trivial,by rw [hk0,hkd]; rfl⟩
  ·have hk' : ¬ k < l.length:=by simpa using hc
   simp -implicitDefEqProofs only [BC,BA,BL,DL,A8,EC,EY,EW,CJ,AY,BB,AO,AQ,AL,BD,AX,AC,AA,AU,BM,AZ,↓reduceIte,oGs,bNf]
   exact ⟨by rw [hk0,List.drop_eq_nil_of_le (show l.length≤k by omega),AB4],t.hx⟩
 ·rintro F H' ⟨f6,rfl,ha⟩
  simp -implicitDefEqProofs only [CP,D8,CJ,f6]
  exact ⟨by unfold RU; rw [ha]; simp,t.hx⟩
theorem AMM (xs:List Nat):xs.map IV=(xs.map fun n:Nat=>(n:Int)).map encI:=by
 rw [List.map_map]; rfl
def tupF:List Nat→Nat→List Nat × Nat
 | [],k=>([],k)
 | n :: ns,k=>(((tupF ns k).2 % n) :: (tupF ns k).1,(tupF ns k).2 / n)
def MZ (ns:List Nat) (k:Nat):List Int:=(tupF ns k).1.map fun n:Nat=>(n:Int)
theorem QD : ∀ (ns:List Nat) (k:Nat),(tupF ns k).1.length=ns.length
 | [],_=>rfl
 | n :: ns,k=>by simp [tupF,QD ns k]
theorem ALI : ∀ (ns:List Nat) (k:Nat),(tupF ns k).2≤k
 | [],_=>Nat.le_refl _
 | _ :: ns,k=>Nat.le_trans (Nat.div_le_self _ _) (ALI ns k)
theorem TZ : ∀ (ns:List Nat) (k:Nat),(∀ n∈ns,1≤n)→MS ns (MZ ns k)=true
 | [],_,_=>rfl
 | n :: ns,k,h=>by
   have h1:=h n (by simp)
   have ih:=TZ ns k (fun x hx=>h x (by simp [hx]))
   have h2:(tupF ns k).2 % n < n:=Nat.mod_lt _ (by omega)
   show MS (n :: ns) (((tupF ns k).2 % n:Nat) :: MZ ns k)=true
   unfold MS
   rw [ih]
   simp; omega
theorem tup_step {ns:List Nat} {K j:Nat} (hj:j < ns.length):tupF (ns.drop j) K=(((tupF (ns.drop (j+1)) K).2 % ns[j]) :: (tupF (ns.drop (j+1)) K).1,(tupF (ns.drop (j+1)) K).2 / ns[j]):=by
 rw [List.drop_eq_getElem_cons hj]; rfl
theorem APD {α:Type} {f:α→List AV} {pre out:List α} {j:Nat} {x:α} (hj:j < pre.length):((pre.take (j+1) ++ out).map f).set j (f x)=(pre.take j ++ x :: out).map f:=by
 rw [List.take_succ_eq_append_getElem hj,List.append_assoc]
 simp only [List.map_append,lMc,lMn,List.singleton_append]
 rw [List.set_append_right _ _ (by simp; omega)]
 simp [Nat.min_eq_left (Nat.le_of_lt hj)]
theorem AYA (h:Hp) (n:Nat) (hn:n≤1048576):JM Tryz.prog true h 57 (.int .i64 (n:Int)) (.int .i64 (n:Int))=some (.own h.length 0 n,h ++ [.live 1 ((List.replicate n 0).map IV)]):=by
 have hz:N7 Tryz.prog 3=some [.int .i64 0]:=by kernel_rfl
 have hr:room n 8:=JO (by omega) (by omega)
 unfold JM
 simp only [TY,sz3,WX,hz,Int.toNat_natCast]
 rw [if_pos ⟨by omega,Int.le_refl _,hr,rfl⟩]
 simp [IV]
theorem AVU {h:Hp} {o j:Nat} {rows:List (List AV)} {x:Nat} (ho:h[o]? = some (.live 1 rows)) (hj : ∃ v,rows[j]? = some [v]):FM Tryz.prog h 3 (.ptr o j 0) (.int .i64 (x:Int))=some (h.set o (.live 1 (rows.set j (IV x)))):=by
 obtain ⟨v,hv⟩:=hj
 rw [KI (PQ _ _) sz3 ho hv (by simp)]; rfl
theorem ALR (a b:Nat) (hb:0 < b):I4 Tryz.prog 3 .rem (.int .i64 (a:Int)) (.int .i64 (b:Int))=some (.int .i64 ((a % b:Nat):Int)):=by
 rw [AA8 _ _ _ _ _ (by omega),Int.tmod_eq_emod_of_nonneg (by omega)]; rfl
theorem ALS (a b:Nat) (hb:0 < b) (ha:a≤9223372036854775807):I4 Tryz.prog 3 .quo (.int .i64 (a:Int)) (.int .i64 (b:Int))=some (.int .i64 ((a / b:Nat):Int)):=by
 have h1:((a:Int).tdiv (b:Int))=((a / b:Nat):Int):=by rw [Int.tdiv_eq_ediv_of_nonneg (by omega)]; rfl
 have h2:=Nat.div_le_self a b
 rw [AUB _ _ _ _ _ (by omega),h1,LU (by omega)]
theorem AD5 (G:Nat→AV) (m:Mo) (c:Cr) (K:Nat) (h:Hp) (hh:Here m c.pts) (hf:Full m) (h0:0 < c.pts.length) (hl:c.pts.length≤1048576) (hK:K≤1048576):PCall (En G) 91 [.agg (EN m),.agg (F7 c),.int .i64 (K:Int)] h (.sl .any 1 ((MZ (szs m c.pts) K).map encI)):=by
 have hs:=hf.szs hh
 have hsl:=NF m c.pts
 have hgo:ACalls (En G) 91 [.agg (EN m),.agg (F7 c),.int .i64 (K:Int)] h fun v H=>ext h H∧outG 1 IV h (tupF (szs m c.pts) K).1 v H:=by
  refine CB (H:=Hint.none) (enM G) Tryz.func91 rfl (by kernel_rfl) (by kernel_rfl) (nLb (by kernel_rfl)) ?_
  show awp _ _ _ _ _ (EE _ [.tmp 6] _)
  have t:=Two.mk' h m c
  have hlt:h.length≤(h ++ [ABlk.live 2 [EN m]] ++ [ABlk.live 3 [F7 c]]).length:=by simp
  have he0:ext h (h ++ [ABlk.live 2 [EN m]] ++ [ABlk.live 3 [F7 c]]):=((ext.rfl' h).app _).app _
  simp -implicitDefEqProofs only [BC,BA,A8,AY,BB,AO,AQ,AL,BD,AX,AC,AA,A7,AU,JD,AZ,FV,BV,BK,CE,AB,BF,BN,↓reduceIte,Nat.reduceEqDiff,Nat.zero_add,oGs,bNf,enP,J9,bxM,bxC]
  generalize h ++ [ABlk.live 2 [EN m]] ++ [ABlk.live 3 [F7 c]]=H at t hlt he0 ⊢
  generalize (h ++ [ABlk.live 2 [EN m]]).length=cb at t ⊢
  have t2:Two h (H ++ [.live 1 ((List.replicate c.pts.length 0).map IV)]) m c cb:=t.app _
  simp -implicitDefEqProofs only [BC,BQ,BA,A8,AY,BB,AO,AQ,AL,BD,AX,AC,AA,A7,AU,BH,AZ,BV,BR,MG,BK,D6,CE,AB,JQ,↓reduceIte,Nat.reduceEqDiff,Nat.zero_add,oGs,bNf,enP,JB,J9,t.l1,lLm,AYA _ _ hl,t2.l1]
  rw [wrap_i64 (n:=(c.pts.length:Int) - 1) (by omega) (by omega)]
  refine DR (fun n F H' => ∃ j,n=j∧j≤c.pts.length∧F 3 = .ptr h.length 0 0∧F 4 = .ptr cb 0 0∧F 7 = .own H.length 0 c.pts.length∧F 8 = .int .i64 ((j:Int) - 1)∧F 2 = .int .i64 ((tupF ((szs m c.pts).drop j) K).2:Nat)∧Two h H' m c cb∧ext h H'∧H'[H.length]? = some (.live 1 (((List.replicate c.pts.length 0).take j ++ (tupF ((szs m c.pts).drop j) K).1).map IV))) c.pts.length ⟨c.pts.length,rfl,Nat.le_refl _,by simp -implicitDefEqProofs only [AA,↓reduceIte,Nat.reduceEqDiff],by simp -implicitDefEqProofs only [AA,↓reduceIte,Nat.reduceEqDiff],by simp -implicitDefEqProofs only [AA,↓reduceIte,Nat.reduceEqDiff],by simp -implicitDefEqProofs only [AA,↓reduceIte],by simp -implicitDefEqProofs only [AA,BF,BN,↓reduceIte,Nat.reduceEqDiff]; rw [List.drop_eq_nil_of_le (by omega)]; rfl,t2,he0.app _,?_⟩ ?_
  ·rw [List.drop_eq_nil_of_le (by omega),List.take_of_length_le (by simp)]
   simp only [tupF,lAn]
   exact CY _ _
  rintro n F H' ⟨j,rfl,hj,f3,f4,f7,f8,f2,t',he,ho⟩
  simp -implicitDefEqProofs only [BC,BA,BI,A8,AY,BB,AO,AQ,AL,BD,AX,AC,AA,A7,AU,BH,BG,BR,AB,GZ,↓reduceIte,oGs,bNf,enP,f8]
  cases n with
  | zero =>
    have:decide ((((0:Nat):Int) - 1)≥0)=false:=by decide
    simp -implicitDefEqProofs only [BC,BA,BL,DL,A8,EC,EY,EW,CJ,DU,AY,BB,AO,AQ,AL,BD,AX,AC,AA,A7,BG,AZ,↓reduceIte,Nat.reduceEqDiff,oGs,bNf,this,f7]
    rw [List.take_zero,List.nil_append,List.drop_zero] at ho
    refine ⟨he,.inr ⟨?_,H.length,hlt,by rw [QD,hsl],ho⟩⟩
    intro e
    have:=QD (szs m c.pts) K
    rw [e] at this; simp at this; omega
  | succ j =>
    have hd:decide ((((j+1:Nat):Int) - 1)≥0)=true:=by simp
    have hj':j < c.pts.length:=by omega
    have hjs:j < (szs m c.pts).length:=by omega
    have hgt:(szs m c.pts)[j]=(JI m c.pts[j]).length:=H9 (AFG m c.pts j hj')
    have h1:=(hs _ (List.getElem_mem hjs)).1
    rw [hgt] at h1
    obtain ⟨s,ls⟩:=hh.ld hj' H'
    have e1:(((j+1:Nat):Int) - 1)=(j:Int):=by omega
    have hst:=tup_step (K:=K) hjs
    rw [hgt] at hst
    have hle:=ALI ((szs m c.pts).drop (j+1)) K
    generalize hr:(tupF ((szs m c.pts).drop (j+1)) K)=r at ho f2 hst hle
    have hrow : ∃ v,(((List.replicate c.pts.length 0).take (j+1) ++ r.1).map IV)[j]? = some [v]:=by
     refine ⟨.int .i64 0,?_⟩
     rw [List.getElem?_map,List.getElem?_append_left (by simp; omega),List.getElem?_take_of_lt (by omega),List.getElem?_replicate_of_lt hj']
     rfl
    have hset:=APD (f:=IV) (pre:=List.replicate c.pts.length 0) (out:=r.1) (j:=j) (x:=r.2 % (JI m c.pts[j]).length) (by simpa using hj')
    have hlo:=CU ho
    simp -implicitDefEqProofs only [BC,BQ,BO,A8,C9,hd]
    refine FD (by kernel_rfl) ?_
    simp -implicitDefEqProofs only [F9,EH,DX,FC,EM,FP,J8,FQ,EG,ED,JK,BC,BA,A8,EF,ER,AY,BB,AO,AQ,AL,BD,AX,AC,E8,AA,A7,AU,BH,BG,AZ,BV,EP,BR,BK,CG,D6,AB,DW,JQ,↓reduceIte,Nat.reduceEqDiff,Nat.reduceAdd,Nat.add_zero,Nat.zero_add,oGs,bNf,enP,PY,IX,Q9,IW,JH,J9,Option.getD_none,f2,f3,f4,f7,f8,e1,t'.lm,t'.l1,D5 hj',DT ag3 hj',encI0,hh.ix hj',ls,lLm,LM ho hj',ALR _ _ h1,ALS _ _ h1 (show r.2≤9223372036854775807 by omega),AVU ho hrow,hset]
    refine ⟨j,by omega,j,rfl,by omega,trivial,trivial,trivial,?_,?_,⟨CV t'.gm ?_,CV t'.gc ?_,?_⟩,he.set hlt _,?_⟩
    ·rw [wrap_i64 (by omega) (by omega)]
    ·rw [hst]
    ·exact Nat.ne_of_lt (CU t.gm)
    ·exact Nat.ne_of_lt (CU t.gc)
    ·exact he.set hlt _
    ·rw [hst]; exact EI ho
 have hp:=RQ ATQ hgo
 have hne:(tupF (szs m c.pts) K).1≠[]:=by
  intro e
  have:=QD (szs m c.pts) K
  rw [e] at this; simp at this; omega
 rw [AMM] at hp
 have hnm:nm (tupF (szs m c.pts) K).1=SM.any:=by
  cases hx:(tupF (szs m c.pts) K).1 with
  | nil=>exact absurd hx hne
  | cons a l=>rfl
 rw [hnm] at hp
 exact hp
structure Cvr where
 pm:SM
 pts:List Is
 cm:SM
 crs:List Is
 sam:Int
 ill:Int
def FZ (v:Cvr):List AV := [.sl v.pm 1 (v.pts.map encL),.sl v.cm 1 (v.crs.map encL),.int .i64 v.sam,.int .i64 v.ill]
theorem AIL (v:Cvr):(FZ v)[0]? = some (.sl v.pm 1 (v.pts.map encL)):=rfl
theorem AET (v:Cvr):(FZ v)[1]? = some (.sl v.cm 1 (v.crs.map encL)):=rfl
theorem AMJ (v:Cvr):(FZ v)[2]? = some (.int .i64 v.sam):=rfl
theorem AMI (v:Cvr):(FZ v)[3]? = some (.int .i64 v.ill):=rfl
theorem ACN (v:Cvr):(FZ v).length=4:=rfl
theorem bxV (h:Hp) (v:Cvr):O3 h (.agg (FZ v))=some (.ptr h.length 0 0,h ++ [.live 4 [FZ v]]):=rfl
theorem ldV {h:Hp} {b:Nat} {v:Cvr} (hb:h[b]? = some (.live 4 [FZ v])):DZ Tryz.prog h 28 (.ptr b 0 0)=some (.agg (FZ v)):=by
 rw [IY AW5 AJI hb rfl (by rw [ACN]; exact Nat.le_refl 4)]; rfl
def RJ (p:Nat→Bool):Nat→List Int→Bool
 | _,[]=>true
 | k,n :: ns=>countB n (p k) && RJ p (k+1) ns
theorem U8 (p:Nat→Bool) (l:List Int) (k:Nat) (hk:k < l.length):RJ p k (l.drop k)=(countB l[k] (p k) && RJ p (k+1) (l.drop (k+1))):=by
 rw [List.drop_eq_getElem_cons hk]; rfl
def J7 {α:Type} (ok:α→Is→Bool):List α→List Is→Bool
 | [],[]=>true
 | a :: ws,x :: xs=>ok a x && J7 ok ws xs
 | _,_=>false
theorem OC {α:Type} {ok:α→Is→Bool} : ∀ {ws:List α} {xs:List Is},J7 ok ws xs=true→ws.length=xs.length
 | [],[],_=>rfl
 | a :: ws,x :: xs,h=>by
   simp only [J7,Bool.and_eq_true] at h
   simp [OC h.2]
 | [],_ :: _,h=>by cases h
 | _ :: _,[],h=>by cases h
theorem VF {α:Type} (ok:α→Is→Bool) (ws:List α) (xs:List Is) (k:Nat) (ha:k < ws.length) (hx:k < xs.length):J7 ok (ws.drop k) (xs.drop k)=(ok ws[k] xs[k] && J7 ok (ws.drop (k+1)) (xs.drop (k+1))):=by
 rw [List.drop_eq_getElem_cons ha,List.drop_eq_getElem_cons hx]; rfl
theorem X8 {α:Type} (ok:α→Is→Bool) (ws:List α) (xs:List Is) (k:Nat) (ha:ws.length≤k) (hx:xs.length≤k):J7 ok (ws.drop k) (xs.drop k)=true:=by
 rw [List.drop_eq_nil_of_le ha,List.drop_eq_nil_of_le hx]; rfl
def kindOf (p:Pt) (k:Nat):Int:=match p.bins[k]? with
 | some b=>b.kind
 | none=>0
def okP (p:Pt) (x:Is):Bool:=(x.l.length == p.bins.length) && RJ (fun k=>kindOf p k == 0) 0 x.l
def okC (m:Mo) (c:Cr) (x:Is):Bool:=(x.l.length == IC (szs m c.pts)) && RJ (fun k=>RU m c (MZ (szs m c.pts) k)) 0 x.l
structure CvOk (v:Cvr):Prop where
 pts:v.pts.length≤1048576
 crs:v.crs.length≤1048576
 eachP : ∀ x∈v.pts,x.l.length≤1048576
 eachC : ∀ x∈v.crs,x.l.length≤1048576
theorem ANW (G:Nat→AV) (m:Mo) (l:List Is) (s:SM) (h:Hp) (hm:MoOk m) (hl : ∀ x∈l,x.l.length≤1048576):PCall (En G) 124 [.agg (EN m),.sl s 1 (l.map encL)] h (.bool (J7 okP m.pts l)):=by
 refine ACalls.pure0 rfl ?_
 have hm1:=hm.np
 refine CB (H:=Hint.none) (enM G) Tryz.func124 rfl (by kernel_rfl) (by kernel_rfl) (nLb (by kernel_rfl)) ?_
 show awp _ _ _ _ _ (EE _ [.tmp 4] _)
 simp -implicitDefEqProofs only [BC,BA,BI,A8,AY,BB,AO,AQ,AL,BD,AX,AC,AA,A7,AU,BM,BG,AZ,FV,BV,BR,BK,D6,CE,AB,EJ,BF,BN,↓reduceIte,Nat.reduceEqDiff,Nat.add_zero,oGs,bNf,enP,QI,IX,TA,bxM,DC TS,OO,lLm]
 refine CW (fun h1 => ?_) (fun h1 => ?_)
 ·simp -implicitDefEqProofs only [BC,BA,BL,A8,CP,CJ,AY,BB,AO,AQ,AL,BD,AX,AC,AA,AU,BM,AZ,↓reduceIte,oGs,bNf]
  have:J7 okP m.pts l=false:=by
   rw [← Bool.not_eq_true]; intro e
   have:=OC e
   simp at h1; omega
  exact ⟨by rw [this],_,rfl⟩
 have hlen:l.length=m.pts.length:=by simp at h1; omega
 simp -implicitDefEqProofs only [BC,BQ,BA,BO,A8,AY,BB,AO,AQ,AL,BD,AX,AC,AA,A7,AU,BH,BG,BV,BK,D6,AB,↓reduceIte,Nat.reduceEqDiff,Nat.add_zero,oGs,bNf,enP,QI,IX,DC TS,OO,lLm]
 refine DR (fun n F H => ∃ i,n+i=m.pts.length∧F 1 = .sl s 1 (l.map encL)∧F 16 = .sl m.pm 6 (m.pts.map FX)∧F 17 = .int .i64 m.pts.length∧F 18 = .int .i64 (i:Nat)∧(∃ x,H=h ++ x)∧J7 okP m.pts l=J7 okP (m.pts.drop i) (l.drop i)) m.pts.length ⟨0,by simp,by simp -implicitDefEqProofs only [AA,BF,BN,↓reduceIte,Nat.reduceEqDiff],by simp -implicitDefEqProofs only [AA,↓reduceIte,Nat.reduceEqDiff],by simp -implicitDefEqProofs only [AA,↓reduceIte,Nat.reduceEqDiff],by simp -implicitDefEqProofs only [AA,↓reduceIte]; rfl,⟨_,rfl⟩,rfl⟩ ?_
 rintro n F H ⟨i,hi,f1,f16,f17,f18,hx,hf⟩
 simp -implicitDefEqProofs only [BC,BA,BI,A8,AY,BB,AO,AQ,AL,BD,AX,AC,AA,A7,BR,AB,DF,↓reduceIte,oGs,bNf,enP,f17,f18]
 refine CW (fun hc => ?_) (fun hc => ?_)
 ·have hi':i < m.pts.length:=by simpa using hc
  have hil:i < l.length:=by omega
  rw [VF okP m.pts l i hi' hil] at hf
  have hx1 : ∃ x,H ++ [ABlk.live 6 [FX m.pts[i]]]=h ++ x:=by
   obtain ⟨x,rfl⟩:=hx
   exact ⟨_,List.append_assoc _ _ _⟩
  have hxl:=hl _ (List.getElem_mem hil)
  simp -implicitDefEqProofs only [BC,BQ,BA,BO,A8,AY,BB,AO,AQ,AL,BD,AX,AC,E8,AA,A7,BG,AZ,GG,BV,EP,CG,CE,AB,DW,↓reduceIte,Nat.reduceEqDiff,oGs,bNf,enP,PY,Option.getD_none,f16,f18,D5 hi',FO AC8 YX JC hi',AUK,ASH _ _ [.str ⟨#[]⟩,.int .i64 0,.int .i64 0,.str ⟨#[]⟩,.sl .nil 0 [],.sl .nil 0 []] rfl]
  refine FD (by kernel_rfl) ?_
  simp -implicitDefEqProofs only [F9,EH,DX,FC,EM,FP,FQ,JA,EG,ED,JK,BI,A8,AO,AA,A7,BV,BR,BK,CG,D6,AB,EJ,↓reduceIte,Nat.reduceEqDiff,Nat.reduceAdd,Nat.zero_add,oGs,enP,NH,Q9,IW,JB,f1,D5 hil,DT LD hil,NV,DC P6,MC,lLm]
  refine CW (fun h2 => ?_) (fun h2 => ?_)
  ·simp -implicitDefEqProofs only [BC,BA,BL,A8,CP,D8,FB,CJ,AY,BB,AO,AQ,AL,BD,AX,AC,AA,AU,BM,AZ,↓reduceIte,oGs,bNf]
   have:okP m.pts[i] l[i]=false:=by
    have:(l[i].l.length == m.pts[i].bins.length)=false:=by
     rw [beq_eq_false_iff_ne]; intro e; simp [e] at h2
    unfold okP; rw [this]; rfl
   exact ⟨by rw [hf,this]; rfl,hx1⟩
  have hbl:l[i].l.length=m.pts[i].bins.length:=by simp at h2; omega
  have hok:okP m.pts[i] l[i]=RJ (fun k=>kindOf m.pts[i] k == 0) 0 l[i].l:=by
   unfold okP; rw [beq_iff_eq.2 hbl]; rfl
  simp -implicitDefEqProofs only [BC,BQ,BA,BO,A8,AY,BB,AO,AQ,AL,BD,AX,AC,AA,A7,AU,BH,BG,BV,CG,D6,AB,↓reduceIte,Nat.reduceEqDiff,oGs,bNf,enP,NH,JB,f1,D5 hil,DT LD hil,NV,lLm]
  refine G9 2 (fun F' H'=>F' 1 = .sl s 1 (l.map encL)∧F' 16 = .sl m.pm 6 (m.pts.map FX)∧F' 17 = .int .i64 m.pts.length∧F' 18 = .int .i64 (i:Nat)∧H'=H ++ [.live 6 [FX m.pts[i]]]∧okP m.pts[i] l[i]=true) (fun F' H'=>F' 4 = .bool false∧H'=H ++ [.live 6 [FX m.pts[i]]]∧okP m.pts[i] l[i]=false) ?_ ?_ ?_
  ·refine DR (fun n F' H' => ∃ k,n+k=l[i].l.length∧F' 1 = .sl s 1 (l.map encL)∧F' 16 = .sl m.pm 6 (m.pts.map FX)∧F' 17 = .int .i64 m.pts.length∧F' 18 = .int .i64 (i:Nat)∧F' 6 = .ptr H.length 0 0∧F' 35 = .sl l[i].m 1 (l[i].l.map encI)∧F' 36 = .int .i64 l[i].l.length∧F' 37 = .int .i64 (k:Nat)∧H'=H ++ [.live 6 [FX m.pts[i]]]∧okP m.pts[i] l[i]=RJ (fun k=>kindOf m.pts[i] k == 0) k (l[i].l.drop k)) l[i].l.length ⟨0,by simp,by simp -implicitDefEqProofs only [AA,↓reduceIte,Nat.reduceEqDiff,f1],by simp -implicitDefEqProofs only [AA,↓reduceIte,Nat.reduceEqDiff,f16],by simp -implicitDefEqProofs only [AA,↓reduceIte,Nat.reduceEqDiff,f17],by simp -implicitDefEqProofs only [AA,↓reduceIte,Nat.reduceEqDiff,f18],by simp -implicitDefEqProofs only [AA,↓reduceIte,Nat.reduceEqDiff],by simp -implicitDefEqProofs only [AA,↓reduceIte,Nat.reduceEqDiff],by simp -implicitDefEqProofs only [AA,↓reduceIte,Nat.reduceEqDiff],by simp -implicitDefEqProofs only [AA,↓reduceIte]; rfl,rfl,hok⟩ ?_
   clear f1 f16 f17 f18
   rintro n' F H' ⟨k,hk,f1,f16,f17,f18,f6,f35,f36,f37,rfl,hr⟩
   simp -implicitDefEqProofs only [BC,BA,BI,A8,AY,BB,AO,AQ,AL,BD,AX,AC,AA,A7,BR,AB,DF,↓reduceIte,oGs,bNf,enP,f36,f37]
   refine CW (fun hc => ?_) (fun hc => ?_)
   ·have hk':k < l[i].l.length:=by simpa using hc
    have hkb:k < m.pts[i].bins.length:=by omega
    have hkd:kindOf m.pts[i] k=(m.pts[i].bins[k]).kind:=by unfold kindOf; rw [List.getElem?_eq_getElem hkb]
    rw [U8 _ _ _ hk',hkd] at hr
    simp -implicitDefEqProofs only [BC,BQ,BA,BO,A8,AY,BB,AO,AQ,AL,BD,AX,AC,AA,A7,BX,BG,AZ,BV,BK,CG,BZ,BU,AB,lMc,lMn,lAn,↓reduceIte,Nat.reduceEqDiff,Nat.zero_add,oGs,bNf,enP,WQ,IW,JH,f6,f35,f37,D5 hk',DT ag3 hk',encI0,DC P6,MC,D5 hkb,FO TN PD LW hkb]
    refine (AAI G _ _).use ?_
    simp -implicitDefEqProofs only [AY,AO,AQ,AL,BD,AX,AC,AA,A7,BX,BZ,BU,lMc,lMn,lAn,↓reduceIte,Nat.reduceEqDiff,oGs,bNf]
    refine (TE G _ _ _).use ?_
    simp -implicitDefEqProofs only [BI,A8,AY,BB,AO,AQ,AL,BD,AX,AC,AA,A7,G6,AB,EX,↓reduceIte,oGs,bNf]
    cases hcb:countB l[i].l[k] (m.pts[i].bins[k].kind == 0)
    ·simp -implicitDefEqProofs only [BC,BA,BL,A8,CP,D8,MR,FB,C9,AY,BB,AO,AQ,AL,BD,AX,AC,AA,AU,BM,AZ,↓reduceIte,oGs,bNf]
     exact ⟨trivial,trivial,by rw [hr,hcb]; rfl⟩
    ·simp -implicitDefEqProofs only [BA,BO,A8,EF,ER,DU,AY,BB,AO,AQ,AL,BD,AX,AC,AA,A7,AU,BH,BG,BR,AB,DI,↓reduceIte,Nat.reduceEqDiff,oGs,bNt,bNf,enP,f37,wrap_succ (show k < 9223372036854775807 by omega)]
     exact ⟨n' - 1,by omega,k+1,by omega,f1,f16,f17,f18,f6,f35,f36,rfl,trivial,by rw [hr,hcb]; rfl⟩
   ·have hk' : ¬ k < l[i].l.length:=by simpa using hc
    simp -implicitDefEqProofs only [DL,EC,KG,EW,AA,↓reduceIte,Nat.reduceEqDiff]
    exact ⟨f1,f16,f17,f18,trivial,by rw [hr,List.drop_eq_nil_of_le (by omega)]; rfl⟩
  ·rintro F' H' ⟨g1,g16,g17,g18,rfl,hr⟩
   simp -implicitDefEqProofs only [BA,A8,EF,EY,ER,AY,BB,AO,AQ,AL,BD,AX,AC,AA,A7,AU,BH,BG,BR,AB,DI,↓reduceIte,Nat.reduceEqDiff,oGs,bNf,enP,g18,wrap_succ (show i < 9223372036854775807 by omega)]
   exact ⟨n - 1,by omega,i+1,by omega,g1,g16,g17,rfl,hx1,by rw [hf,hr]; rfl⟩
  ·rintro F' H' ⟨g4,rfl,hr⟩
   simp -implicitDefEqProofs only [CP,D8,FB,CJ,g4]
   exact ⟨by rw [hf,hr]; rfl,hx1⟩
 ·have hi' : ¬ i < m.pts.length:=by simpa using hc
  simp -implicitDefEqProofs only [BC,BA,BL,DL,A8,EC,EY,EW,CJ,AY,BB,AO,AQ,AL,BD,AX,AC,AA,AU,BM,AZ,↓reduceIte,oGs,bNf]
  exact ⟨by rw [hf,X8 okP _ _ i (by omega) (by omega)],hx⟩
end Go.Proofs.YtocilianjfhifaaGreatDoor.Cov
