/- Part 6 of the proof (L1, M4, M5, M6, M7, M8, M9, M10, M11); no condition. -/
import Derived.Test.YtocilianjfhifaaGreatDoorV5
set_option linter.unusedVariables false
/- Lists that are built by appending; whatever the element; no condition. -/
namespace Go.Proofs.YtocilianjfhifaaGreatDoor.Cov
open Go Go.Proofs Go.Proofs.YtocilianjfhifaaGreatDoor.Sm Go.Proofs.YtocilianjfhifaaGreatDoor.Bins Go.RowKit

def outG {α:Type} (k:Nat) (f:α→List AV) (h:Hp) (ys:List α) (v:AV) (H:Hp):Prop :=
 (ys = []∧v = .sl .nil 0 [])∨(ys≠[]∧∃ o,h.length≤o∧v = .own o 0 ys.length∧H[o]? = some (.live k (ys.map f)))
theorem outG.nil {α:Type} (k:Nat) (f:α→List AV) (h H:Hp):outG k f h [] (.sl .nil 0 []) H := .inl ⟨rfl,rfl⟩
theorem outG.keep {α:Type} {k:Nat} {f:α→List AV} {h H H':Hp} {ys:List α} {v:AV} (ho:outG k f h ys v H) (hk : ∀ b,isB v b→H'[b]? = H[b]?):outG k f h ys v H':=by
 rcases ho with h1 | ⟨h1,o,h2,rfl,h3⟩
 ·exact .inl h1
 ·exact .inr ⟨h1,o,h2,rfl,by rw [hk o rfl]; exact h3⟩
theorem outG.lt {α:Type} {k:Nat} {f:α→List AV} {h H:Hp} {ys:List α} {v:AV} {b:Nat} (ho:outG k f h ys v H) (hb:isB v b):h.length≤b∧b < H.length:=by
 rcases ho with ⟨_,rfl⟩ | ⟨_,o,h2,rfl,h3⟩
 ·exact hb.elim
 ·cases hb; exact ⟨h2,CJ h3⟩
theorem outG.app {α:Type} {k:Nat} {f:α→List AV} {h H:Hp} {ys:List α} {v:AV} (ho:outG k f h ys v H) (x:Hp):outG k f h ys v (H ++ x) :=
 ho.keep fun _ hb=>List.getElem?_append_left (ho.lt hb).2
theorem outG.append {P:Program} {t e:TypeId} {α:Type} {k bs:Nat} {f:α→List AV} {h H:Hp} {ys:List α} {v:AV} (ho:outG k f h ys v H) (hu:P.underlying t=some (.slice e)) (hs:szO P e=some k) (hz:QQ P e=some k) (hb:LD P e=some bs) (hbs:bs≤4194304) (hl:ys.length < 8388608) (he:ext h H) (y:α) :
  ∃ v' H',G5 P true H t t v (.sl .full k [f y])=some (v',H')∧outG k f h (ys ++ [y]) v' H'∧(∀ b x,H[b]? = some x→¬ isB v b→H'[b]? = some x)∧ext h H'∧H.length≤H'.length∧∀ b,isB v' b→b=H.length:=by
 have h1:([f y]:List (List AV))≠[]:=by simp
 rcases ho with ⟨rfl,rfl⟩ | ⟨hne,o,h2,rfl,h3⟩
 ·exact ⟨_,_,XY hu hs hz hb (KX H .full k [f y]) h1 (KO (by simp) hbs),.inr ⟨by simp,H.length,he.le,rfl,by simp⟩,fun b x hb _=>IW hb,he.app _,by simp,fun b hb=>hb.symm⟩
 ·have hc:KA H (.own o 0 ys.length)=some (k,ys.map f):=by
   rw [P8 h3 (by simp),List.drop_zero,List.take_of_length_le (by simp)]
  refine ⟨_,_,AAL hu hs hz hb hc (KX H .full k [f y]) h1 (KO (by simp; omega) hbs),.inr ⟨by simp,H.length,he.le,by simp,by simp⟩,fun b x hb hn => ?_,(he.set h2 _).app _,by simp,fun b hb=>hb.symm⟩
  have hn' : ¬ o=b:=hn
  refine IW ?_
  rw [List.getElem?_set,if_neg hn']; exact hb
theorem outG.len {P:Program} {t:TypeId} {α:Type} {k:Nat} {f:α→List AV} {h H:Hp} {ys:List α} {v:AV} (ho:outG k f h ys v H) (hl:(∀ m k xs,JZ P t (.sl m k xs)=some (.int .i64 xs.length))∧∀ b off len,JZ P t (.own b off len)=some (.int .i64 len)):JZ P t v=some (.int .i64 ys.length):=by
 rcases ho with ⟨rfl,rfl⟩ | ⟨_,o,_,rfl,_⟩
 ·exact hl.1 _ _ _
 ·exact hl.2 _ _ _
def nm {α:Type} (ys:List α):SM:=match ys with
 | [] => .nil
 | _ => .any
theorem AIF (n:Nat) (h:Hp) (d b off len k:Nat) (xs:List (List AV)) (hn : ¬ b < n) (hb:h[b]? = some (.live k xs)):JF n h (d+1) (.own b off len)=if off+len≤xs.length∧(((xs.drop off).take len).map (·.map (JF n h d))).all (·.all AV.leaf)=true then .sl .any k (((xs.drop off).take len).map (·.map (JF n h d))) else .junk:=by
 rw [JF]
 simp only [hn,if_false,hb]
/-- rows that freezing leaves as they are -/
def Frz {α:Type} (f:α→List AV):Prop := ∀ (n:Nat) (h:Hp) (d:Nat) (x:α),(f x).map (JF n h (d+1))=f x∧(f x).all AV.leaf=true
theorem ARH {α:Type} {f:α→List AV} (hf:Frz f) (n:Nat) (h:Hp) (d:Nat) (xs:List α):(xs.map f).map (·.map (JF n h (d+1)))=xs.map f:=by
 rw [List.map_map]
 exact List.map_congr_left fun x _=>(hf n h d x).1
theorem XI {α:Type} {f:α→List AV} (hf:Frz f) {n d k:Nat} {h:Hp} {o:Nat} {xs:List α} (hn:n≤o) (ho:h[o]? = some (.live k (xs.map f))):JF n h (d+2) (.own o 0 xs.length) = .sl .any k (xs.map f):=by
 rw [AIF n h (d+1) o 0 xs.length k _ (by omega) ho,List.drop_zero,List.take_of_length_le (by simp),ARH hf n h d xs]
 rw [if_pos]
 refine ⟨by simp,?_⟩
 rw [List.all_eq_true]
 intro row hr
 obtain ⟨x,_,rfl⟩:=List.mem_map.1 hr
 exact (hf n h d x).2
theorem MS {E:Env} {f:FuncId} {args:List AV} {h:Hp} {α:Type} {k:Nat} {enc:α→List AV} (hf:Frz enc) {ys:List α} (hc:ACalls E f args h fun v H=>ext h H∧outG k enc h ys v H):PCall E f args h (.sl (nm ys) k (ys.map enc)):=by
 have h1:ACalls E f args h fun v H=>v=(if ys.length=0 then AV.sl .nil 0 [] else .sl .any k (ys.map enc))∧H=h:=by
  refine ACalls.pure 2 hc ?_
  rintro v H ⟨hex,hout⟩
  refine ⟨hex,?_⟩
  rcases hout with ⟨rfl,rfl⟩ | ⟨hne,o,ho1,rfl,ho⟩
  ·rfl
  ·rw [if_neg (by simpa using hne)]; exact XI hf ho1 ho
 refine h1.conv ?_
 rintro v H ⟨rfl,rfl⟩
 refine ⟨_,⟨rfl,rfl⟩,?_⟩
 intro g cv hr
 cases ys with
 | nil=>exact AHW hr
 | cons y ys=>exact hr
end Go.Proofs.YtocilianjfhifaaGreatDoor.Cov
/- Crosses: their sizes and combinations, on both sides; no condition but the bounds on lengths. -/
set_option linter.unusedSimpArgs false
set_option maxRecDepth 8000
namespace Go.Proofs.YtocilianjfhifaaGreatDoor.Cov
open Go Go.Proofs Go.Proofs.YtocilianjfhifaaGreatDoor.Sm Go.Proofs.YtocilianjfhifaaGreatDoor.Bins Go.RowKit

def II (m:Mo) (p:Int):List Bin:=match m.pts[p.toNat]? with
 | some q=>q.bins
 | none => []
def szs (m:Mo) (l:List Int):List Nat:=l.map fun p=>(II m p).length
/-- points that are there -/
def Here (m:Mo) (l:List Int):Prop := ∀ p∈l,0≤p∧p < (m.pts.length:Int)
theorem Here.toNat {m:Mo} {l:List Int} (hh:Here m l) {k:Nat} (hk:k < l.length):(l[k]).toNat < m.pts.length:=by
 have:=hh _ (List.getElem_mem hk); omega
theorem Here.bins {m:Mo} {l:List Int} (hh:Here m l) {k:Nat} (hk:k < l.length):(m.pts[(l[k]).toNat]'(hh.toNat hk)).bins=II m l[k]:=by
 unfold II; rw [List.getElem?_eq_getElem (hh.toNat hk)]
theorem Here.ix {m:Mo} {l:List Int} (hh:Here m l) {k:Nat} (hk:k < l.length) (h:Hp) (s:SM):LX 6 h (.sl s 6 (m.pts.map IM)) (.int .i64 l[k])=some (.fptr 6 (m.pts.map IM) (l[k]).toNat 0):=by
 have:=hh _ (List.getElem_mem hk)
 exact AV4 this.1 (by rw [List.length_map]; exact this.2)
theorem Here.ld {m:Mo} {l:List Int} (hh:Here m l) {k:Nat} (hk:k < l.length) (h:Hp) : ∃ s,EE Tryz.prog h 54 (.fptr 6 (m.pts.map IM) (l[k]).toNat 5)=some (.sl s 4 ((II m l[k]).map J9)):=by
 rw [CV PO (hh.toNat hk),ML,hh.bins hk]
 exact ⟨_,rfl⟩
theorem ACI (h:Hp) (v:Int):FO Tryz.prog false h 57 1 [(0,.int .i64 v)]=some (.sl .full 1 [[.int .i64 v]],h):=by kernel_rfl
def FI (n:Nat):List AV := [.int .i64 (n:Int)]
theorem AOS:Frz FI:=fun _ _ _ _=>⟨rfl,rfl⟩
theorem VU (n:Nat):(FI n)[0]? = some (.int .i64 (n:Int)):=rfl
theorem encI0 (n:Int):(encI n)[0]? = some (.int .i64 n):=rfl
theorem AG3 (m:Mo) (l:List Int) (k:Nat) (hk:k < l.length):szs m (l.take (k+1))=szs m (l.take k) ++ [(II m l[k]).length]:=by
 unfold szs; rw [List.take_succ_eq_append_getElem hk,List.map_append]; rfl
theorem V6 (G:Nat→AV) (m:Mo) (c:Cr) (h:Hp) (hh:Here m c.pts) (hl:c.pts.length≤1048576):PCall (En G) 167 [.agg (DU m),.agg (H6 c)] h (.sl (nm (szs m c.pts)) 1 ((szs m c.pts).map FI)):=by
 refine MS AOS ?_
 refine CG (H:=Hint.none) (enM G) Tryz.func167 rfl (by kernel_rfl) (by kernel_rfl) (Nat.le_of_ble_eq_true (by kernel_rfl)) ?_
 show awp _ _ _ _ _ (EU _ [.tmp 4] _)
 simp -implicitDefEqProofs only [BB,BP,AZ,A8,AY,BC,AO,AQ,AL,BD,AX,AC,AA,A7,AU,BH,FV,BF,BA,FK,BO,BJ,DN,BR,AB,BG,BV,↓reduceIte,Nat.reduceEqDiff,Nat.zero_add,Option.getD_some,Bool.not_false,enP,IL,JJ,bxM,bxC,DI LC,TQ,List.length_map]
 have hb0:(h ++ [ABlk.live 2 [DU m]] ++ [ABlk.live 3 [H6 c]])[h.length]? = some (.live 2 [DU m]):=DL (CX _ _)
 refine C9 (fun n F H => ∃ k,n+k=c.pts.length∧F 2 = .ptr h.length 0 0∧F 9 = .sl c.pm 1 (c.pts.map encI)∧F 10 = .int .i64 c.pts.length∧F 11 = .int .i64 (k:Nat)∧H[h.length]? = some (.live 2 [DU m])∧ext h H∧(∀ b,isB (F 5) b→h.length < b)∧outG 1 FI h (szs m (c.pts.take k)) (F 5) H) c.pts.length ⟨0,by simp,by simp -implicitDefEqProofs only [AA,↓reduceIte,Nat.reduceEqDiff],by simp -implicitDefEqProofs only [AA,↓reduceIte,Nat.reduceEqDiff],by simp -implicitDefEqProofs only [AA,↓reduceIte,Nat.reduceEqDiff],by simp -implicitDefEqProofs only [AA,↓reduceIte]; rfl,hb0,((ext.rfl' h).app _).app _,fun b hb=>hb.elim,outG.nil _ _ _ _⟩ ?_
 rintro n F H ⟨k,hk,f2,f9,f10,f11,hb,he,hlt,ho⟩
 simp -implicitDefEqProofs only [BB,AZ,BI,A8,AY,BC,AO,AQ,AL,BD,AX,AC,AA,A7,BQ,AB,CW,↓reduceIte,Option.getD_some,Bool.not_false,enP,f10,f11]
 refine CQ (fun hc => ?_) (fun hc => ?_)
 ·have hk':k < c.pts.length:=by simpa using hc
  have lm:EE Tryz.prog H 22 (.ptr h.length 0 0)=some (.sl m.pm 6 (m.pts.map IM)):=by rw [D6 VN hb (row:=DU m) rfl,QK]
  obtain ⟨s,ls⟩:=hh.ld hk' H
  have hzl:(szs m (c.pts.take k)).length < 8388608:=by unfold szs; simp; omega
  obtain ⟨v',H',ha,ho',hkeep,he',hle,hb'⟩:=ho.append QB sz3 X6 WN (by omega) hzl he (II m c.pts[k]).length
  simp -implicitDefEqProofs only [FP,FZ,BB,BP,AZ,BN,A8,AY,BC,AO,AQ,AL,BD,AX,AC,AA,A7,BF,BA,ES,BO,BJ,BZ,DN,GU,BR,AB,↓reduceIte,Nat.reduceEqDiff,Nat.add_zero,Nat.zero_add,Option.getD_some,Bool.not_false,enP,OJ,IG,QS,IU,JQ,f2,f9,f11,DJ hk',CV ag3 hk',encI0,lm,hh.ix hk',ls,List.length_map,ACI]
  refine F9 (v:=v') (h:=H') (by rw [show [[AV.int .i64 ((II m c.pts[k]).length:Int)]] = [FI (II m c.pts[k]).length] from rfl,ha]) ?_
  simp -implicitDefEqProofs only [AZ,A8,D8,ED,AY,BC,AO,AQ,AL,BD,AX,AC,AA,A7,AU,BH,BF,BA,BQ,AB,CZ,↓reduceIte,Nat.reduceEqDiff,Option.getD_some,Bool.not_false,enP,f11,wrap_succ (show k < 9223372036854775807 by omega)]
  refine ⟨n - 1,by omega,k+1,by omega,f2,f9,f10,rfl,hkeep _ _ hb (fun e=>by have:=hlt _ e; omega),he',fun b hbb => ?_,?_⟩
  ·have:=hb' b hbb; have:=CJ hb; omega
  ·rw [AG3 m c.pts k hk']; exact ho'
 ·have hk' : ¬ k < c.pts.length:=by simpa using hc
  rw [List.take_of_length_le (by omega)] at ho
  simp -implicitDefEqProofs only [BB,AZ,BM,DC,A8,DZ,EN,EP,CU,AY,BC,AO,AQ,AL,BD,AX,AC,AA,A7,BF,BA,↓reduceIte,Nat.reduceEqDiff,Option.getD_some,Bool.not_false]
  exact ⟨he,ho⟩

/-- the number of combinations -/
def FY (l:List Nat):Nat:=l.foldl (· * ·) 1
theorem NQ (l:List Nat) (k:Nat) (hk:k < l.length):FY (l.take (k+1))=FY (l.take k) * l[k]:=by
 unfold FY; rw [List.take_succ_eq_append_getElem hk,List.foldl_append]; rfl
theorem AA8 (l:List Nat) (k:Nat) (h : ∀ n∈l,n≤64) (hk:l.length≤k):FY l≤64 ^ k:=by
 have gen : ∀ (l:List Nat) (a:Nat) (j:Nat),(∀ n∈l,n≤64)→a≤64 ^ j→l.foldl (· * ·) a≤64 ^ (j+l.length):=by
  intro l
  induction l with
  | nil=>intro a j _ ha; exact ha
  | cons x l ih =>
    intro a j hl ha
    rw [List.foldl_cons,List.length_cons,show j+(l.length+1)=(j+1)+l.length by omega]
    refine ih _ _ (fun n hn=>hl n (by simp [hn])) ?_
    rw [Nat.pow_succ]
    exact Nat.mul_le_mul ha (hl x (by simp))
 have:=gen l 1 0 h (by simp)
 rw [Nat.zero_add] at this
 exact Nat.le_trans this (Nat.pow_le_pow_right (by omega) hk)
theorem AA7 (l:List Nat) (k:Nat) (h : ∀ n∈l,1≤n):FY (l.take k)≤FY l:=by
 have gen : ∀ (l:List Nat) (a:Nat),(∀ n∈l,1≤n)→a≤l.foldl (· * ·) a:=by
  intro l
  induction l with
  | nil=>intro a _; exact Nat.le_refl _
  | cons x l ih =>
    intro a hl
    rw [List.foldl_cons]
    refine Nat.le_trans ?_ (ih _ (fun n hn=>hl n (by simp [hn])))
    exact Nat.le_mul_of_pos_right a (hl x (by simp))
 have h2:FY l=(l.drop k).foldl (· * ·) (FY (l.take k)):=by
  unfold FY
  conv=>lhs; rw [← List.take_append_drop k l,List.foldl_append]
 rw [h2]
 exact gen _ _ (fun n hn=>h n (List.mem_of_mem_drop hn))
theorem S9 (G:Nat→AV) (l:List Nat) (s:SM) (h:Hp) (hl : ∀ n∈l,n≤64) (hk:l.length≤4):PCall (En G) 180 [.sl s 1 (l.map FI)] h (.int .i64 (FY l)):=by
 refine CG (H:=Hint.none) (enM G) Tryz.func180 rfl (by kernel_rfl) (by kernel_rfl) (Nat.le_of_ble_eq_true (by kernel_rfl)) ?_
 show awp _ _ _ _ _ (EU _ [.tmp 2] _)
 simp -implicitDefEqProofs only [BB,BP,AZ,A8,AY,BC,AO,AQ,AL,BD,AX,AC,AA,A7,AU,BH,BF,BA,DN,AB,BG,↓reduceIte,Nat.reduceEqDiff,Option.getD_some,Bool.not_false,enP,IL,List.length_map]
 have hp : ∀ k,FY (l.take k)≤16777216:=fun k=>by
  have:=AA8 (l.take k) 4 (fun n hn=>hl n (List.mem_of_mem_take hn)) (by rw [List.length_take]; omega)
  simpa using this
 refine C9 (fun n F H => ∃ k,n+k=l.length∧F 3 = .int .i64 (FY (l.take k))∧F 6 = .sl s 1 (l.map FI)∧F 7 = .int .i64 l.length∧F 8 = .int .i64 (k:Nat)∧H=h) l.length ⟨0,by simp,by simp -implicitDefEqProofs only [AA,↓reduceIte,Nat.reduceEqDiff]; rfl,by simp -implicitDefEqProofs only [AA,↓reduceIte,Nat.reduceEqDiff],by simp -implicitDefEqProofs only [AA,↓reduceIte,Nat.reduceEqDiff],by simp -implicitDefEqProofs only [AA,↓reduceIte]; rfl,rfl⟩ ?_
 rintro n F H ⟨k,hk,f3,f6,f7,f8,rfl⟩
 simp -implicitDefEqProofs only [BB,AZ,BI,A8,AY,BC,AO,AQ,AL,BD,AX,AC,AA,A7,BQ,AB,CW,↓reduceIte,Option.getD_some,Bool.not_false,enP,f7,f8]
 refine CQ (fun hc => ?_) (fun hc => ?_)
 ·have hk':k < l.length:=by simpa using hc
  have h1:=hp (k+1)
  rw [NQ l k hk'] at h1
  have hw:IntKind.i64.wrap ((FY (l.take k):Int) * (l[k]:Int))=((FY (l.take (k+1)):Nat):Int):=by
   rw [NQ l k hk',← Int.natCast_mul,TY (by omega)]
  simp -implicitDefEqProofs only [BB,BP,AZ,BN,A8,D8,ED,AY,BC,AO,AQ,AL,BD,AX,AC,AA,A7,AU,BH,BF,BA,BO,BQ,BZ,AB,CZ,VI,↓reduceIte,Nat.reduceEqDiff,Option.getD_some,Bool.not_false,enP,JQ,f3,f6,f8,DJ hk',CV ag3 hk',VU,hw,wrap_succ (show k < 9223372036854775807 by omega)]
  exact ⟨n - 1,by omega,k+1,by omega,rfl,trivial,f7,rfl,trivial⟩
 ·have hk' : ¬ k < l.length:=by simpa using hc
  rw [List.take_of_length_le (by omega)] at f3
  simp -implicitDefEqProofs only [BB,AZ,BM,DC,A8,DZ,EN,EP,CU,AY,BC,AO,AQ,AL,BD,AX,AC,AA,A7,BF,BA,↓reduceIte,Nat.reduceEqDiff,Option.getD_some,Bool.not_false,f3]
  exact ⟨trivial,trivial⟩
/-- a combination -/
def LY:List Nat→List Int→Bool
 | [],[]=>true
 | n :: ns,x :: xs=>decide (0≤x) && decide (x < (n:Int)) && LY ns xs
 | _,_=>false
theorem AQ2 (ns:List Nat):LY ns []=(ns.length == 0):=by cases ns <;> rfl
theorem PH : ∀ {ns:List Nat} {xs:List Int},LY ns xs=true→ns.length=xs.length
 | [],[],_=>rfl
 | n :: ns,x :: xs,h=>by
   simp only [LY,Bool.and_eq_true] at h
   simp [PH h.2]
 | [],_ :: _,h=>by cases h
 | _ :: _,[],h=>by cases h
theorem AH2 (G:Nat→AV) (ns:List Nat) (xs:List Int) (s t:SM) (h:Hp) (hn:ns.length≤1048576):PCall (En G) 182 [.sl s 1 (ns.map FI),.sl t 1 (xs.map encI)] h (.bool (LY ns xs)):=by
 refine CG (H:=Hint.none) (enM G) Tryz.func182 rfl (by kernel_rfl) (by kernel_rfl) (Nat.le_of_ble_eq_true (by kernel_rfl)) ?_
 show awp _ _ _ _ _ (EU _ [.tmp 4] _)
 simp -implicitDefEqProofs only [BB,BP,AZ,A8,AY,BC,AO,AQ,AL,BD,AX,AC,AA,A7,AU,BH,BL,BF,BA,DN,AB,BG,BV,↓reduceIte,Nat.reduceEqDiff,Option.getD_some,Bool.not_false,enP,IL,List.length_map]
 refine C9 (fun n F H => ∃ k,n+k=xs.length∧k≤ns.length∧F 0 = .sl s 1 (ns.map FI)∧F 1 = .sl t 1 (xs.map encI)∧F 7 = .sl t 1 (xs.map encI)∧F 8 = .int .i64 xs.length∧F 9 = .int .i64 (k:Nat)∧H=h∧LY ns xs=LY (ns.drop k) (xs.drop k)) xs.length ⟨0,by simp,by simp,by simp -implicitDefEqProofs only [AA,BG,↓reduceIte,Nat.reduceEqDiff],by simp -implicitDefEqProofs only [AA,BG,BV,↓reduceIte,Nat.reduceEqDiff],by simp -implicitDefEqProofs only [AA,↓reduceIte,Nat.reduceEqDiff],by simp -implicitDefEqProofs only [AA,↓reduceIte,Nat.reduceEqDiff],by simp -implicitDefEqProofs only [AA,↓reduceIte]; rfl,rfl,rfl⟩ ?_
 rintro n F H ⟨k,hk,hkn,f0,f1,f7,f8,f9,rfl,hi⟩
 simp -implicitDefEqProofs only [BB,AZ,BI,A8,AY,BC,AO,AQ,AL,BD,AX,AC,AA,A7,BQ,AB,CW,↓reduceIte,Option.getD_some,Bool.not_false,enP,f8,f9]
 refine CQ (fun hc => ?_) (fun hc => ?_)
 ·have hk':k < xs.length:=by simpa using hc
  rw [List.drop_eq_getElem_cons hk'] at hi
  simp -implicitDefEqProofs only [BB,BP,AZ,BN,A8,AY,BC,BK,BU,CO,AO,AQ,AL,BD,AX,AC,AA,A7,BF,BA,BO,BQ,BZ,DN,AB,G7,↓reduceIte,Nat.reduceEqDiff,Option.getD_some,Bool.not_false,enP,JQ,IL,f0,f7,f9,DJ hk',CV ag3 hk',encI0,List.length_map]
  refine H8 (fun ha => ?_) (fun ha => ?_)
  ·simp -implicitDefEqProofs only [BB,AZ,BM,BI,A8,CS,EG,FM,CU,DX,AY,BC,BK,BU,CO,F5,AO,AQ,AL,BD,AX,AC,AA,EY,A7,AU,BL,BF,BA,CP,DW,↓reduceIte,Nat.reduceEqDiff,Option.getD_some,Bool.not_false,ha]
   have:ns.length≤k:=by simp at ha; omega
   rw [List.drop_eq_nil_of_le this] at hi
   exact ⟨by rw [hi]; rfl,trivial⟩
  have hkn':k < ns.length:=by simp at ha; omega
  rw [List.drop_eq_getElem_cons hkn'] at hi
  simp -implicitDefEqProofs only [AY,BK,BU,CO,EO,AO,AQ,AL,BD,AX,AC,AA,A7,AU,BH,BL,BF,CP,DV,BQ,AB,CW,↓reduceIte,Nat.reduceEqDiff,Option.getD_some,Bool.not_false,enP,ha]
  refine H8 (fun hb => ?_) (fun hb => ?_)
  ·simp -implicitDefEqProofs only [BB,AZ,BM,BI,A8,CS,EG,FM,CU,DX,AY,BC,BK,BU,CO,F5,AO,AQ,AL,BD,AX,AC,AA,EY,A7,AU,BL,BA,CP,DW,↓reduceIte,Nat.reduceEqDiff,Option.getD_some,Bool.not_false,hb]
   have:decide (0≤xs[k])=false:=by simp at hb ⊢; omega
   exact ⟨by rw [hi]; unfold LY; rw [this]; rfl,trivial⟩
  have h0:decide (0≤xs[k])=true:=by simp at hb ⊢; omega
  simp -implicitDefEqProofs only [BI,A8,AY,BC,BK,BU,CO,EO,AO,AQ,AL,BD,AX,AC,AA,A7,AU,BL,BF,CP,DV,BO,BQ,BZ,AB,G7,↓reduceIte,Nat.reduceEqDiff,Option.getD_some,Bool.not_false,enP,JQ,hb,f0,DJ hkn',CV ag3 hkn',VU]
  refine CQ (fun hd => ?_) (fun hd => ?_)
  ·simp -implicitDefEqProofs only [BB,AZ,BM,A8,CS,EG,FM,CU,AY,BC,AO,AQ,AL,BD,AX,AC,AA,AU,BL,BA,↓reduceIte,Option.getD_some,Bool.not_false]
   have:decide (xs[k] < (ns[k]:Int))=false:=by simp at hd ⊢; omega
   exact ⟨by rw [hi]; unfold LY; rw [this,h0]; rfl,trivial⟩
  have h1:decide (xs[k] < (ns[k]:Int))=true:=by simp at hd ⊢; omega
  simp -implicitDefEqProofs only [AZ,BN,A8,D8,ED,AY,BC,AO,AQ,AL,BD,AX,AC,AA,A7,AU,BH,BF,BQ,AB,CZ,↓reduceIte,Nat.reduceEqDiff,Option.getD_some,Bool.not_false,enP,f9,wrap_succ (show k < 9223372036854775807 by omega)]
  refine ⟨n - 1,by omega,k+1,by omega,by omega,f0,f1,f7,f8,rfl,trivial,?_⟩
  rw [hi]
  conv=>lhs; unfold LY
  rw [h0,h1]; rfl
 ·have hk' : ¬ k < xs.length:=by simpa using hc
  simp -implicitDefEqProofs only [BB,AZ,BM,DC,A8,DZ,EN,EP,CU,AY,BC,AO,AQ,AL,BD,AX,AC,AA,A7,BF,BA,BQ,DN,AB,EJ,↓reduceIte,Nat.reduceEqDiff,Option.getD_some,Bool.not_false,enP,IL,f0,f1,List.length_map]
  refine ⟨?_,trivial⟩
  rw [hi,List.drop_eq_nil_of_le (show xs.length≤k by omega),AQ2,List.length_drop]
  congr 1
  rw [Bool.eq_iff_iff]; simp; omega
end Go.Proofs.YtocilianjfhifaaGreatDoor.Cov
/- The error of a cross: the program; no condition but the variables that are laid and the bounds on lengths. -/
set_option linter.unusedSimpArgs false
set_option maxRecDepth 8000
namespace Go.Proofs.YtocilianjfhifaaGreatDoor.Cov
open Go Go.Proofs Go.Proofs.YtocilianjfhifaaGreatDoor.Sm Go.Proofs.YtocilianjfhifaaGreatDoor.Bins Go.RowKit

theorem AH6 (G:Nat→AV) (xs:List Is) (m:SM) (fid:FuncId) (caps:List AV) (p:Is→Bool) (h:Hp) (hl:xs.length≤1099511627776)
  (hf : ∀ r,PCall (En G) fid (.sl r.m 1 (r.l.map encI) :: caps) h (.bool (p r))) :
  PCall (En G) 183 [.sl m 1 (xs.map HY),.fn (.func fid) [] caps] h (.int .i64 (match xs.findIdx? p with | some i=>(i:Int) | none => -1)):=by
 refine CG (H:=Hint.none) (enM G) Tryz.func183 rfl (by kernel_rfl) (by kernel_rfl) (Nat.le_of_ble_eq_true (by kernel_rfl)) ?_
 show awp _ _ _ _ _ (EU _ [.tmp 4] _)
 simp -implicitDefEqProofs only [BB,BP,AZ,A8,AY,BC,AO,AQ,AL,BD,AX,AC,AA,A7,AU,BH,BF,BA,DN,AB,BG,↓reduceIte,Nat.reduceEqDiff,Option.getD_some,Bool.not_false,enP,YF,List.length_map]
 refine C9 (fun n F H => ∃ k,n+k=xs.length∧F 0 = .sl m 1 (xs.map HY)∧F 1 = .fn (.func fid) [] caps∧F 7 = .int .i64 xs.length∧F 8 = .int .i64 (k:Nat)∧H=h∧(xs.take k).all (fun r => !p r)=true) xs.length ⟨0,by simp,rfl,rfl,rfl,rfl,rfl,rfl⟩ ?_
 rintro n F H ⟨k,hk,f0,f1,f7,f8,rfl,hin⟩
 simp -implicitDefEqProofs only [BB,AZ,BI,A8,AY,BC,AO,AQ,AL,BD,AX,AC,AA,A7,BQ,AB,CW,↓reduceIte,Option.getD_some,Bool.not_false,enP,f0,f1,f7,f8,List.length_map]
 refine CQ (fun hc => ?_) (fun hc => ?_)
 ·have hc':k < xs.length:=by simpa using hc
  simp -implicitDefEqProofs only [BB,BP,AZ,BN,A8,AY,BC,AO,AQ,AL,BD,AX,AC,AA,A7,BF,BA,BO,BZ,CE,BX,AB,List.map_cons,List.map_nil,List.nil_append,List.cons_append,↓reduceIte,Nat.reduceEqDiff,Option.getD_some,Bool.not_false,enP,QT,f0,f1,f7,f8,DJ hc',CV LC hc',NC]
  refine (hf _).use ?_
  simp -implicitDefEqProofs only [BI,A8,BC,AC,AA,A7,↓reduceIte]
  refine CQ (fun hb => ?_) (fun hb => ?_)
  ·simp -implicitDefEqProofs only [BB,AZ,BM,A8,CS,EG,FM,CU,AY,BC,AO,AQ,AL,BD,AX,AC,AA,A7,BF,BA,↓reduceIte,Nat.reduceEqDiff,Option.getD_some,Bool.not_false]
   refine ⟨?_,trivial⟩
   rw [List.findIdx?_eq_some_iff_getElem.2 ⟨hc',hb,fun j hj=>by
    rw [List.all_eq_true] at hin
    have:=hin xs[j] (by rw [List.mem_take_iff_getElem]; exact ⟨j,by omega,rfl⟩)
    simpa using this⟩]
  ·simp -implicitDefEqProofs only [AZ,BN,A8,D8,ED,AY,BC,AO,AQ,AL,BD,AX,AC,AA,A7,AU,BH,BF,BQ,AB,CZ,↓reduceIte,Nat.reduceEqDiff,Option.getD_some,Bool.not_false,enP,f8,wrap_succ (show k < 9223372036854775807 by omega)]
   refine ⟨n - 1,by omega,k+1,by omega,f0,f1,f7,rfl,trivial,?_⟩
   rw [List.take_succ_eq_append_getElem hc',List.all_append,hin]
   simp only [List.all_cons,List.all_nil,hb]; rfl
 ·have hc' : ¬ k < xs.length:=by simpa using hc
  simp -implicitDefEqProofs only [BB,AZ,BM,DC,A8,DZ,EN,EP,CU,AY,BC,AO,AQ,AL,BD,AX,AC,AA,AU,BH,BA,↓reduceIte,Option.getD_some,Bool.not_false]
  refine ⟨?_,trivial⟩
  rw [List.take_of_length_le (by omega)] at hin
  rw [List.findIdx?_eq_none_iff.2 (by simpa using hin)]

theorem QM (G:Nat→AV) (xs:List Is) (m:SM) (fid:FuncId) (caps:List AV) (p:Is→Bool) (h:Hp) (hl:xs.length≤1099511627776)
  (hf : ∀ r,PCall (En G) fid (.sl r.m 1 (r.l.map encI) :: caps) h (.bool (p r))) :
  PCall (En G) 133 [.sl m 1 (xs.map HY),.fn (.func fid) [] caps] h (.bool (xs.any p)):=by
 refine CG (H:=Hint.none) (enM G) Tryz.func133 rfl (by kernel_rfl) (by kernel_rfl) (Nat.le_of_ble_eq_true (by kernel_rfl)) ?_
 show awp _ _ _ _ _ (EU _ [.tmp 4] _)
 simp -implicitDefEqProofs only [BB,AZ,A8,AY,BC,AO,AQ,AL,BD,AX,AC,AA,A7,AU,CB,BL,BF,BA,CE,BX,BG,BV,List.map_cons,List.map_nil,List.append_nil,↓reduceIte,Nat.reduceEqDiff,Option.getD_some,Bool.not_false,enP]
 refine (AH6 G xs m fid caps p h hl hf).use ?_
 simp -implicitDefEqProofs only [BM,A8,CU,AY,BC,AO,AQ,AL,BD,AX,AC,AA,A7,AU,BH,BA,BQ,AB,G7,↓reduceIte,Option.getD_some,Bool.not_false,enP]
 refine ⟨?_,trivial⟩
 cases hx:xs.findIdx? p with
 | some i =>
   obtain ⟨h1,h2,_⟩:=List.findIdx?_eq_some_iff_getElem.1 hx
   have:xs.any p=true:=List.any_eq_true.2 ⟨xs[i],by simp,h2⟩
   simp [this]
 | none =>
   have:xs.any p=false:=by
    rw [List.findIdx?_eq_none_iff] at hx
    rw [List.any_eq_false]; intro x hx2; simp [hx x hx2]
   simp [this]
theorem AFN (G:Nat→AV) (ns:List Nat) (s:SM) (b:Nat) (r:Is) (h:Hp) (hb:h[b]? = some (.live 1 [[.sl s 1 (ns.map FI)]])) (hn:ns.length≤1048576) :
  PCall (En G) 181 [.sl r.m 1 (r.l.map encI),.ptr b 0 0] h (.bool (!LY ns r.l)):=by
 refine CG (H:=Hint.none) (enM G) Tryz.func181 rfl (by kernel_rfl) (by kernel_rfl) (Nat.le_of_ble_eq_true (by kernel_rfl)) ?_
 show awp _ _ _ _ _ (EU _ [.tmp 3] _)
 simp -implicitDefEqProofs only [BB,AZ,A8,AY,BC,AO,AQ,AL,BD,AX,AC,AA,A7,AU,CB,BL,BF,BA,BO,CE,BX,AB,BG,BV,List.map_cons,List.map_nil,List.append_nil,↓reduceIte,Nat.reduceEqDiff,Option.getD_some,Bool.not_false,enP,LM LC hb]
 refine (AH2 G ns r.l s r.m h hn).use ?_
 simp -implicitDefEqProofs only [BM,A8,CU,AY,BC,AO,AQ,AL,BD,AX,AC,AA,A7,BA,H9,AB,FB,↓reduceIte,Option.getD_some,Bool.not_false]
 exact ⟨trivial,trivial⟩
/-- points in order -/
def UK (n:Nat):Option Int→List Int→Bool
 | _,[]=>true
 | o,p :: ps=>(decide (0≤p) && decide (p < (n:Int)) && (match o with | some q=>decide (q < p) | none=>true)) && UK n (some p) ps
def prev (l:List Int) (k:Nat):Option Int:=match k with
 | 0=>none
 | k+1=>l[k]?
theorem AD9 (n:Nat) (l:List Int) (k:Nat) (hk:k < l.length):UK n (prev l k) (l.drop k)=((decide (0≤l[k]) && decide (l[k] < (n:Int)) && (match prev l k with | some q=>decide (q < l[k]) | none=>true)) && UK n (prev l (k+1)) (l.drop (k+1))):=by
 rw [List.drop_eq_getElem_cons hk]
 have:prev l (k+1)=some l[k]:=by unfold prev; exact List.getElem?_eq_getElem hk
 rw [this]; rfl
theorem VC {m:Mo} : ∀ {l:List Int} {o:Option Int},UK m.pts.length o l=true→Here m l
 | [],_,_=>fun p hp=>by cases hp
 | x :: l,o,h=>by
   simp only [UK,Bool.and_eq_true,decide_eq_true_eq] at h
   intro p hp
   cases List.mem_cons.1 hp with
   | inl e=>subst e; exact ⟨h.1.1.1,h.1.1.2⟩
   | inr e=>exact VC h.2 p e
def IA (m:Mo) (c:Cr):Int :=
 if G9 c.name=false then 7 else if c.pts.length < 2∨4 < c.pts.length then 1 else if UK m.pts.length none c.pts=false then 1 else
  if 256 < FY (szs m c.pts)∨256 < c.excl.length then 2 else if (c.excl.any fun x => !LY (szs m c.pts) x.l) then 1 else 0
structure CrOk (c:Cr):Prop where
 name:c.name.size≤1048576
 pts:c.pts.length≤1048576
 excl:c.excl.length≤1048576
 each : ∀ x∈c.excl,x.l.length≤1048576
/-- points that have bins -/
def Full (m:Mo):Prop := ∀ p∈m.pts,1≤p.bins.length∧p.bins.length≤64
theorem Full.szs {m:Mo} {l:List Int} (hf:Full m) (hh:Here m l) : ∀ n∈szs m l,1≤n∧n≤64:=by
 intro n hn
 obtain ⟨p,hp,rfl⟩:=List.mem_map.1 hn
 obtain ⟨h0,h1⟩:=hh p hp
 have hlt:p.toNat < m.pts.length:=by omega
 have:II m p=(m.pts[p.toNat]).bins:=by unfold II; rw [List.getElem?_eq_getElem hlt]
 rw [this]
 exact hf _ (List.getElem_mem hlt)
theorem al56 (h:Hp):KD Tryz.prog h 57=some (.ptr h.length 0 0,h ++ [.live 1 [[.sl .nil 0 []]]]):=JY (row := [.sl .nil 0 []]) (by kernel_rfl)
theorem ldM {h:Hp} {b:Nat} {m:Mo} (hb:h[b]? = some (.live 2 [DU m])):EE Tryz.prog h 25 (.ptr b 0 0)=some (.agg (DU m)):=by
 rw [JE AX8 AS7 hb rfl (by rw [AIW]; exact Nat.le_refl 2)]; rfl
theorem ldC {h:Hp} {b:Nat} {c:Cr} (hb:h[b]? = some (.live 3 [H6 c])):EE Tryz.prog h 71 (.ptr b 0 0)=some (.agg (H6 c)):=by
 rw [JE ACQ X7 hb rfl (by rw [KG]; exact Nat.le_refl 3)]; rfl
theorem AK4 (G:Nat→AV) (hG:GOk G) (m:Mo) (c:Cr) (hc:CrOk c) (hf:Full m) (h:Hp):PCall (En G) 130 [.agg (DU m),.agg (H6 c)] h (.int .i64 (IA m c)):=by
 refine ACalls.pure0 rfl ?_
 have hc1:=hc.name
 have hc2:=hc.pts
 have hc3:=hc.excl
 refine CG (H:=Hint.none) (enM G) Tryz.func130 rfl (by kernel_rfl) (by kernel_rfl) (Nat.le_of_ble_eq_true (by kernel_rfl)) ?_
 show awp _ _ _ _ _ (EU _ [.tmp 4] _)
 have gm:(h ++ [ABlk.live 2 [DU m]] ++ [ABlk.live 3 [H6 c]])[h.length]? = some (.live 2 [DU m]):=DL (CX _ _)
 have gc:(h ++ [ABlk.live 2 [DU m]] ++ [ABlk.live 3 [H6 c]])[(h ++ [ABlk.live 2 [DU m]]).length]? = some (.live 3 [H6 c]):=CX _ _
 have hx : ∃ x,h ++ [ABlk.live 2 [DU m]] ++ [ABlk.live 3 [H6 c]]=h ++ x:=⟨_,List.append_assoc _ _ _⟩
 have hlt:h.length < (h ++ [ABlk.live 2 [DU m]]).length:=by simp
 simp -implicitDefEqProofs only [BB,AZ,A8,AY,BC,AO,AQ,AL,BD,AX,AC,AA,A7,AU,BH,BA,FK,BO,BJ,BR,AB,BG,BV,↓reduceIte,Nat.reduceEqDiff,Nat.add_zero,Option.getD_some,Bool.not_false,enP,AF1,bxM,bxC]
 generalize h ++ [ABlk.live 2 [DU m]] ++ [ABlk.live 3 [H6 c]]=H at gm gc hx ⊢
 generalize (h ++ [ABlk.live 2 [DU m]]).length=cb at gc hlt ⊢
 have lm:EE Tryz.prog H 22 (.ptr h.length 0 0)=some (.sl m.pm 6 (m.pts.map IM)):=by rw [D6 VN gm (row:=DU m) rfl,QK]
 have lc0:EE Tryz.prog H 9 (.ptr cb 0 0)=some (.str c.name):=by rw [D6 ag9 gc (row:=H6 c) rfl,AM8]
 have lc1:EE Tryz.prog H 57 (.ptr cb 0 1)=some (.sl c.pm 1 (c.pts.map encI)):=by rw [D6 LC gc (row:=H6 c) rfl,TQ]
 have lc2:EE Tryz.prog H 26 (.ptr cb 0 2)=some (.sl c.xm 1 (c.excl.map HY)):=by rw [D6 SH gc (row:=H6 c) rfl,AIY]
 simp -implicitDefEqProofs only [AY,AO,AQ,AL,BD,AX,AC,AA,A7,CB,CE,BX,AB,List.map_cons,List.map_nil,List.append_nil,↓reduceIte,Option.getD_some,Bool.not_false,lc0]
 refine (NW G hG.kw c.name _ (by omega)).use ?_
 simp -implicitDefEqProofs only [BI,A8,AY,BC,AO,AQ,AL,BD,AX,AC,AA,A7,H9,AB,FB,↓reduceIte,Option.getD_some,Bool.not_false]
 cases h1:G9 c.name
 ·simp -implicitDefEqProofs only [BB,AZ,BM,A8,CS,CU,DX,AY,BC,AO,AQ,AL,BD,AX,AC,AA,AU,BH,BA,↓reduceIte,Option.getD_some,Bool.not_false]
  exact ⟨by unfold IA; rw [if_pos h1],hx⟩
 have h1' : ¬ G9 c.name=false:=by rw [h1]; decide
 simp -implicitDefEqProofs only [BB,AZ,BN,A8,DY,AY,BK,BU,CO,AO,AQ,AL,BD,AX,AC,AA,A7,AU,BH,BF,BO,BQ,BJ,DN,AB,CW,↓reduceIte,Nat.reduceEqDiff,Nat.zero_add,Option.getD_some,Bool.not_true,Bool.not_false,enP,IL,JJ,lc1,List.length_map]
 refine H8 (fun h2 => ?_) (fun h2 => ?_)
 ·simp -implicitDefEqProofs only [BB,AZ,BM,BI,A8,CS,CU,DX,AY,BC,BK,BU,CO,F5,AO,AQ,AL,BD,AX,AC,AA,EY,A7,AU,BH,BL,BA,CP,DW,↓reduceIte,Nat.reduceEqDiff,Option.getD_some,Bool.not_false,h2]
  exact ⟨by unfold IA; rw [if_neg h1',if_pos (.inl (by simp at h2; omega))],hx⟩
 simp -implicitDefEqProofs only [BI,A8,AY,BC,BK,BU,CO,EO,AO,AQ,AL,BD,AX,AC,AA,A7,AU,BH,BL,CP,DV,BO,BQ,BJ,DN,AB,EW,↓reduceIte,Nat.reduceEqDiff,Nat.zero_add,Option.getD_some,Bool.not_false,enP,IL,JJ,h2,lc1,List.length_map]
 refine CQ (fun h3 => ?_) (fun h3 => ?_)
 ·simp -implicitDefEqProofs only [BB,AZ,BM,A8,CS,CU,AY,BC,AO,AQ,AL,BD,AX,AC,AA,AU,BH,BA,↓reduceIte,Option.getD_some,Bool.not_false]
  exact ⟨by unfold IA; rw [if_neg h1',if_pos (.inr (by simp at h3; omega))],hx⟩
 have h23 : ¬ (c.pts.length < 2∨4 < c.pts.length):=by simp at h2 h3; omega
 simp -implicitDefEqProofs only [BB,BP,AZ,BN,A8,AY,BC,AO,AQ,AL,BD,AX,AC,AA,A7,AU,BH,BF,BO,BJ,DN,AB,↓reduceIte,Nat.reduceEqDiff,Nat.zero_add,Option.getD_some,Bool.not_false,enP,IL,JJ,lc1,List.length_map]
 refine F8 0 (fun F H'=>F 2 = .ptr h.length 0 0∧F 3 = .ptr cb 0 0∧H'=H∧UK m.pts.length none c.pts=true) (fun F H'=>F 4 = .int .i64 1∧H'=H∧UK m.pts.length none c.pts=false) ?_ ?_ ?_
 ·refine C9 (fun n F H' => ∃ k,n+k=c.pts.length∧F 2 = .ptr h.length 0 0∧F 3 = .ptr cb 0 0∧F 23 = .sl c.pm 1 (c.pts.map encI)∧F 24 = .int .i64 c.pts.length∧F 25 = .int .i64 (k:Nat)∧H'=H∧UK m.pts.length none c.pts=UK m.pts.length (prev c.pts k) (c.pts.drop k)) c.pts.length ⟨0,by simp,by simp -implicitDefEqProofs only [AA,↓reduceIte,Nat.reduceEqDiff],by simp -implicitDefEqProofs only [AA,↓reduceIte,Nat.reduceEqDiff],by simp -implicitDefEqProofs only [AA,↓reduceIte,Nat.reduceEqDiff],by simp -implicitDefEqProofs only [AA,↓reduceIte,Nat.reduceEqDiff],by simp -implicitDefEqProofs only [AA,↓reduceIte]; rfl,rfl,rfl⟩ ?_
  rintro n F H' ⟨k,hk,f2,f3,f23,f24,f25,rfl,hi⟩
  simp -implicitDefEqProofs only [BB,AZ,BI,A8,AY,BC,AO,AQ,AL,BD,AX,AC,AA,A7,BQ,AB,CW,↓reduceIte,Option.getD_some,Bool.not_false,enP,f24,f25]
  refine CQ (fun hlt => ?_) (fun hlt => ?_)
  ·have hk':k < c.pts.length:=by simpa using hlt
   rw [AD9 _ _ _ hk'] at hi
   simp -implicitDefEqProofs only [BB,BP,AZ,BN,A8,AY,BC,BK,BU,CO,AO,AQ,AL,BD,AX,AC,AA,A7,AU,BH,BF,BA,BO,BQ,BZ,AB,CW,↓reduceIte,Nat.reduceEqDiff,Option.getD_some,Bool.not_false,enP,JQ,f2,f3,f23,f25,DJ hk',CV ag3 hk',encI0]
   refine H8 (fun ha => ?_) (fun ha => ?_)
   ·simp -implicitDefEqProofs only [BB,AZ,BM,BI,A8,CS,EG,LW,FM,DX,AY,BC,BK,BU,CO,F5,QP,AO,AQ,AL,BD,AX,AC,AA,EY,A7,AU,BH,BL,BF,BA,CP,DW,↓reduceIte,Nat.reduceEqDiff,Option.getD_some,Bool.not_false,ha]
    have:decide (0≤c.pts[k])=false:=by simp at ha ⊢; omega
    exact ⟨trivial,trivial,by rw [hi,this]; rfl⟩
   have ha':decide (0≤c.pts[k])=true:=by simp at ha ⊢; omega
   simp -implicitDefEqProofs only [AY,BK,BU,CO,EO,AO,AQ,AL,BD,AX,AC,AA,A7,AU,BL,BF,CP,DV,BO,BQ,BJ,DN,AB,G7,↓reduceIte,Nat.reduceEqDiff,Nat.add_zero,Option.getD_some,Bool.not_false,enP,QE,IG,ha,f2,lm,List.length_map]
   refine H8 (fun hb => ?_) (fun hb => ?_)
   ·simp -implicitDefEqProofs only [BB,AZ,BM,BI,A8,CS,EG,LW,FM,DX,AY,BC,BK,BU,CO,F5,QP,AO,AQ,AL,BD,AX,AC,AA,EY,A7,AU,BH,BL,BA,CP,DW,↓reduceIte,Nat.reduceEqDiff,Option.getD_some,Bool.not_false,hb]
    have:decide (c.pts[k] < (m.pts.length:Int))=false:=by simp at hb ⊢; omega
    exact ⟨trivial,trivial,by rw [hi,this,ha']; rfl⟩
   have hb':decide (c.pts[k] < (m.pts.length:Int))=true:=by simp at hb ⊢; omega
   rw [ha',hb'] at hi
   simp only [Bool.true_and] at hi
   cases k with
   | zero =>
     have hz:decide ((((0:Nat):Int)) > 0)=false:=by decide
     simp -implicitDefEqProofs only [AZ,BN,BI,A8,D8,ED,DY,AY,BC,BK,BU,CO,EO,JH,AO,AQ,AL,BD,AX,AC,AA,EY,A7,AU,BH,BL,BF,CP,DV,BQ,AB,CZ,EW,↓reduceIte,Nat.reduceEqDiff,Nat.zero_add,Option.getD_some,Bool.not_false,enP,hb,hz,f25,wrap_succ (show 0 < 9223372036854775807 by omega)]
     exact ⟨n - 1,by omega,1,by omega,f2,f3,f23,f24,rfl,trivial,by rw [hi]; rfl⟩
   | succ k =>
     have hz:decide ((((k+1:Nat):Int)) > 0)=true:=by simp
     have hw:IntKind.i64.wrap (((k+1:Nat):Int) - 1)=(k:Int):=by rw [wrap_i64 (by omega) (by omega)]; omega
     have hk2:k < c.pts.length:=by omega
     have hpv:prev c.pts (k+1)=some c.pts[k]:=by unfold prev; exact List.getElem?_eq_getElem hk2
     rw [hpv] at hi
     simp -implicitDefEqProofs only [BI,A8,AY,BC,BK,BU,CO,GN,EO,AO,AQ,AL,BD,AX,AC,AA,A7,AU,BH,BL,BF,CP,DW,DV,BO,BQ,BJ,BZ,AB,KY,KZ,EW,↓reduceIte,Nat.reduceEqDiff,Nat.zero_add,Option.getD_some,Bool.not_false,enP,JQ,JJ,hb,hz,f3,lc1,hw,DJ hk2,CV ag3 hk2,encI0]
     refine CQ (fun hd => ?_) (fun hd => ?_)
     ·simp -implicitDefEqProofs only [BB,AZ,BM,A8,CS,EG,LW,FM,AY,BC,AO,AQ,AL,BD,AX,AC,AA,AU,BH,BA,↓reduceIte,Option.getD_some,Bool.not_false]
      have:decide (c.pts[k] < c.pts[k+1])=false:=by simp at hd ⊢; omega
      exact ⟨trivial,trivial,by rw [hi]; simp only [this]; rfl⟩
     ·simp -implicitDefEqProofs only [AZ,BN,A8,D8,ED,AY,BC,AO,AQ,AL,BD,AX,AC,AA,A7,AU,BH,BF,BQ,AB,CZ,↓reduceIte,Nat.reduceEqDiff,Option.getD_some,Bool.not_false,enP,f25,wrap_succ (show k+1 < 9223372036854775807 by omega)]
      have:decide (c.pts[k] < c.pts[k+1])=true:=by simp at hd ⊢; omega
      exact ⟨n - 1,by omega,k+1+1,by omega,f2,f3,f23,f24,rfl,trivial,by rw [hi]; simp only [this]; rfl⟩
  ·have hk' : ¬ k < c.pts.length:=by simpa using hlt
   simp -implicitDefEqProofs only [DC,DZ,JM,EP,AA,↓reduceIte,Nat.reduceEqDiff]
   exact ⟨f2,f3,trivial,by rw [hi,List.drop_eq_nil_of_le (by omega)]; rfl⟩
 ·rintro F H' ⟨f2,f3,rfl,hi⟩
  have hh:=VC hi
  have hi' : ¬ UK m.pts.length none c.pts=false:=by rw [hi]; decide
  simp -implicitDefEqProofs only [BB,AZ,A8,EN,AY,AO,AQ,AL,BD,AX,AC,AA,A7,CB,BO,CE,BX,AB,List.map_cons,List.map_nil,List.append_nil,↓reduceIte,Nat.reduceEqDiff,Option.getD_some,Bool.not_false,enP,f2,f3,ldM gm,ldC gc]
  refine (V6 G m c _ hh (by omega)).use ?_
  have hsz:(szs m c.pts).length≤4:=by unfold szs; simp; omega
  have hst:=U5 (t:=57) (v := .sl .nil 0 []) (u := .sl (nm (szs m c.pts)) 1 ((szs m c.pts).map FI)) AC3 (AZ3 _ _ _) (CX H' (.live 1 [[.sl .nil 0 []]]))
  rw [ZZ] at hst
  simp -implicitDefEqProofs only [BB,BP,AZ,A8,AY,BC,AO,AQ,AL,BD,AX,AC,EZ,AA,A7,CB,FW,BO,EI,CE,BX,BR,AB,DR,List.map_cons,List.map_nil,List.append_nil,↓reduceIte,Nat.reduceEqDiff,Option.getD_some,Bool.not_false,enP,Option.getD_none,al56,hst,LM LC (CX H' _)]
  refine (S9 G _ _ _ (fun n hn=>(hf.szs hh n hn).2) hsz).use ?_
  have hx2 : ∃ x,H' ++ [ABlk.live 1 [[AV.sl (nm (szs m c.pts)) 1 ((szs m c.pts).map FI)]]]=h ++ x:=by
   obtain ⟨x,hx⟩:=hx
   exact ⟨x ++ _,by rw [hx,List.append_assoc]⟩
  have lc2' : ∀ x,EE Tryz.prog (H' ++ [x]) 26 (.ptr cb 0 2)=some (.sl c.xm 1 (c.excl.map HY)):=fun x=>by rw [D6 SH (DL gc) (row:=H6 c) rfl,AIY]
  simp -implicitDefEqProofs only [AY,BK,BU,CO,AO,AQ,AL,BD,AX,AC,AA,A7,AU,BH,BF,BQ,AB,EW,↓reduceIte,Option.getD_some,Bool.not_false,enP]
  refine H8 (fun ha => ?_) (fun ha => ?_)
  ·simp -implicitDefEqProofs only [BB,AZ,BM,BI,A8,CS,EG,CU,DX,AY,BC,BK,BU,CO,F5,AO,AQ,AL,BD,AX,AC,AA,EY,A7,AU,BH,BL,BA,CP,DW,↓reduceIte,Nat.reduceEqDiff,Option.getD_some,Bool.not_false,ha]
   exact ⟨by unfold IA; rw [if_neg h1',if_neg h23,if_neg hi',if_pos (.inl (by simp at ha; omega))],hx2⟩
  simp -implicitDefEqProofs only [BI,A8,AY,BC,BK,BU,CO,EO,AO,AQ,AL,BD,AX,AC,AA,A7,AU,BH,BL,BA,CP,DV,BO,BQ,BJ,DN,AB,EW,↓reduceIte,Nat.reduceEqDiff,Nat.zero_add,Option.getD_some,Bool.not_false,enP,YF,PM,ha,f3,lc2',List.length_map]
  refine CQ (fun hb => ?_) (fun hb => ?_)
  ·simp -implicitDefEqProofs only [BB,AZ,BM,A8,CS,EG,CU,AY,BC,AO,AQ,AL,BD,AX,AC,AA,AU,BH,BA,↓reduceIte,Option.getD_some,Bool.not_false]
   exact ⟨by unfold IA; rw [if_neg h1',if_neg h23,if_neg hi',if_pos (.inr (by simp at hb; omega))],hx2⟩
  have hab : ¬ (256 < FY (szs m c.pts)∨256 < c.excl.length):=by simp at ha hb; omega
  simp -implicitDefEqProofs only [BB,AZ,AY,AO,AQ,AL,BD,AX,AC,AA,A7,CB,BO,LZ,BJ,CE,BX,AB,List.map_cons,List.map_nil,List.append_nil,↓reduceIte,Nat.reduceEqDiff,Nat.zero_add,Option.getD_some,Bool.not_false,enP,PM,f3,lc2']
  refine (QM G c.excl c.xm 181 _ (fun x => !LY (szs m c.pts) x.l) _ (by omega) fun r=>AFN G _ _ _ r _ (CX H' _) (by omega)).use ?_
  simp -implicitDefEqProofs only [BI,A8,AY,BC,AO,AQ,AL,BD,AX,AC,AA,A7,BA,↓reduceIte,Option.getD_some,Bool.not_false]
  cases he:c.excl.any fun x => !LY (szs m c.pts) x.l
  ·simp -implicitDefEqProofs only [BB,AZ,BN,BM,A8,D8,CU,DY,AY,BC,AO,AQ,AL,BD,AX,AC,AA,AU,BH,BA,↓reduceIte,Option.getD_some,Bool.not_false]
   exact ⟨by unfold IA; rw [if_neg h1',if_neg h23,if_neg hi',if_neg hab,he]; rfl,hx2⟩
  ·simp -implicitDefEqProofs only [BB,AZ,BM,A8,CS,EG,CU,DX,AY,BC,AO,AQ,AL,BD,AX,AC,AA,AU,BH,BA,↓reduceIte,Option.getD_some,Bool.not_false]
   exact ⟨by unfold IA; rw [if_neg h1',if_neg h23,if_neg hi',if_neg hab,he]; rfl,hx2⟩
 ·rintro F H' ⟨f4,rfl,hi⟩
  simp -implicitDefEqProofs only [CS,EG,CU,f4]
  exact ⟨by unfold IA; rw [if_neg h1',if_neg h23,if_pos hi],hx⟩
end Go.Proofs.YtocilianjfhifaaGreatDoor.Cov
/- The error of a cross: the reference; no condition but the bounds on lengths. -/
set_option linter.unusedSimpArgs false
set_option maxRecDepth 8000
namespace Go.Proofs.YtocilianjfhifaaGreatDoor.Cov
open Go Go.Proofs Go.Proofs.YtocilianjfhifaaGreatDoor.Sm Go.Proofs.YtocilianjfhifaaGreatDoor.Bins Go.RowKit

theorem U4 (m:Mo) (l:List Int) (k:Nat) (hk:k < l.length):(szs m l)[k]? = some (II m l[k]).length:=by
 unfold szs; rw [List.getElem?_map,List.getElem?_eq_getElem hk]; rfl
theorem J3 (m:Mo) (l:List Int):(szs m l).length=l.length:=by unfold szs; simp
/-- a model and a cross in two blocks -/
structure Two (h H:Hp) (m:Mo) (c:Cr) (cb:Nat):Prop where
 gm:H[h.length]? = some (.live 2 [DU m])
 gc:H[cb]? = some (.live 3 [H6 c])
 hx : ∃ x,H=h ++ x
theorem Two.lm {h H:Hp} {m:Mo} {c:Cr} {cb:Nat} (t:Two h H m c cb):EE Tryz.prog H 22 (.ptr h.length 0 0)=some (.sl m.pm 6 (m.pts.map IM)):=by rw [D6 VN t.gm (row:=DU m) rfl,QK]
theorem Two.l0 {h H:Hp} {m:Mo} {c:Cr} {cb:Nat} (t:Two h H m c cb):EE Tryz.prog H 9 (.ptr cb 0 0)=some (.str c.name):=by rw [D6 ag9 t.gc (row:=H6 c) rfl,AM8]
theorem Two.l1 {h H:Hp} {m:Mo} {c:Cr} {cb:Nat} (t:Two h H m c cb):EE Tryz.prog H 57 (.ptr cb 0 1)=some (.sl c.pm 1 (c.pts.map encI)):=by rw [D6 LC t.gc (row:=H6 c) rfl,TQ]
theorem Two.l2 {h H:Hp} {m:Mo} {c:Cr} {cb:Nat} (t:Two h H m c cb):EE Tryz.prog H 26 (.ptr cb 0 2)=some (.sl c.xm 1 (c.excl.map HY)):=by rw [D6 SH t.gc (row:=H6 c) rfl,AIY]
theorem Two.mk' (h:Hp) (m:Mo) (c:Cr):Two h (h ++ [.live 2 [DU m]] ++ [.live 3 [H6 c]]) m c (h ++ [ABlk.live 2 [DU m]]).length:=⟨DL (CX _ _),CX _ _,⟨_,List.append_assoc _ _ _⟩⟩
theorem YP (G:Nat→AV) (m:Mo) (c:Cr) (h:Hp) (hh:Here m c.pts) (hf:Full m) (hl:c.pts.length≤1048576):PCall (En G) 89 [.agg (DU m),.agg (H6 c)] h (.int .i64 (min (FY (szs m c.pts)) 1000)):=by
 refine ACalls.pure0 rfl ?_
 refine CG (H:=Hint.none) (enM G) Tryz.func89 rfl (by kernel_rfl) (by kernel_rfl) (Nat.le_of_ble_eq_true (by kernel_rfl)) ?_
 show awp _ _ _ _ _ (EU _ [.tmp 4] _)
 have t:=Two.mk' h m c
 simp -implicitDefEqProofs only [BB,BP,AZ,A8,AY,BC,AO,AQ,AL,BD,AX,AC,AA,A7,AU,BH,BA,FK,BR,BG,BV,↓reduceIte,Nat.reduceEqDiff,Option.getD_some,Bool.not_false,enP,bxM,bxC]
 generalize h ++ [ABlk.live 2 [DU m]] ++ [ABlk.live 3 [H6 c]]=H at t ⊢
 generalize (h ++ [ABlk.live 2 [DU m]]).length=cb at t ⊢
 have hs:=hf.szs hh
 refine F8 0 (fun F H'=>(F 5 = .int .i64 (FY (szs m c.pts):Nat)∨∃ n:Nat,1000≤n∧n≤FY (szs m c.pts)∧F 5 = .int .i64 n)∧H'=H) (fun _ _=>False) ?_ ?_ (fun _ _ hh=>hh.elim)
 ·refine C9 (fun n F H' => ∃ k,n+k=c.pts.length∧F 2 = .ptr h.length 0 0∧F 3 = .ptr cb 0 0∧F 5 = .int .i64 (FY ((szs m c.pts).take k):Nat)∧F 6 = .int .i64 (k:Nat)∧H'=H) c.pts.length ⟨0,by simp,by simp -implicitDefEqProofs only [AA,↓reduceIte,Nat.reduceEqDiff],by simp -implicitDefEqProofs only [AA,↓reduceIte,Nat.reduceEqDiff],by simp -implicitDefEqProofs only [AA,↓reduceIte,Nat.reduceEqDiff]; rfl,by simp -implicitDefEqProofs only [AA,↓reduceIte]; rfl,rfl⟩ ?_
  rintro n F H' ⟨k,hk,f2,f3,f5,f6,rfl⟩
  simp -implicitDefEqProofs only [BB,AZ,AY,BK,BU,CO,AO,AQ,AL,BD,AX,AC,AA,A7,BF,BO,BQ,BJ,DN,AB,CW,↓reduceIte,Nat.reduceEqDiff,Nat.zero_add,Option.getD_some,Bool.not_false,enP,IL,JJ,f3,f6,t.l1,List.length_map]
  refine H8 (fun ha => ?_) (fun ha => ?_)
  ·have hk':k < c.pts.length:=by simpa using ha
   simp -implicitDefEqProofs only [BI,A8,AY,BC,BK,BU,CO,GN,AO,AQ,AL,BD,AX,AC,AA,A7,AU,BH,BL,BF,CP,DW,BQ,AB,CW,↓reduceIte,Nat.reduceEqDiff,Option.getD_some,Bool.not_false,enP,ha,f5]
   refine CQ (fun hb => ?_) (fun hb => ?_)
   ·have hb':FY ((szs m c.pts).take k) < 1000:=by simp at hb; omega
    obtain ⟨s,ls⟩:=hh.ld hk' H'
    have hks:k < (szs m c.pts).length:=by rw [J3]; exact hk'
    have hgt:(szs m c.pts)[k]=(II m c.pts[k]).length:=GZ (U4 m c.pts k hk')
    have h64:=(hs _ (List.getElem_mem hks)).2
    rw [hgt] at h64
    have hpt:=NQ (szs m c.pts) k hks
    rw [hgt] at hpt
    have hmul:FY ((szs m c.pts).take k) * (II m c.pts[k]).length≤1000 * 64:=Nat.mul_le_mul (by omega) h64
    have hw:IntKind.i64.wrap ((FY ((szs m c.pts).take k):Int) * ((II m c.pts[k]).length:Int))=((FY ((szs m c.pts).take (k+1)):Nat):Int):=by
     rw [hpt,← Int.natCast_mul,TY (by omega)]
    simp -implicitDefEqProofs only [BB,BP,BN,A8]
    refine ER (by kernel_rfl) ?_
    simp -implicitDefEqProofs only [F7,D9,DT,E8,EC,FH,IQ,FC,IE,D5,D7,GV,AZ,A8,D8,ED,AY,BC,AO,AQ,AL,BD,AX,AC,AA,A7,AU,BH,BF,BA,BO,BQ,BJ,BZ,DN,AB,CZ,VI,↓reduceIte,Nat.reduceEqDiff,Nat.reduceAdd,Nat.add_zero,Nat.zero_add,Option.getD_some,Bool.not_false,enP,OJ,IG,QS,IU,JQ,JJ,f2,f3,f5,f6,t.lm,t.l1,DJ hk',CV ag3 hk',encI0,hh.ix hk',ls,List.length_map,hw,wrap_succ (show k < 9223372036854775807 by omega)]
    exact ⟨n - 1,by omega,k+1,by omega,trivial,trivial,rfl,rfl,trivial⟩
   ·simp -implicitDefEqProofs only [DC,DZ,JM,EP,AA,↓reduceIte,Nat.reduceEqDiff]
    exact ⟨.inr ⟨_,by simp at hb; omega,AA7 _ _ (fun n hn=>(hs n hn).1),f5⟩,trivial⟩
  ·have hk' : ¬ k < c.pts.length:=by simpa using ha
   simp -implicitDefEqProofs only [DC,BI,A8,DZ,JM,EP,DY,AY,BC,BK,BU,CO,JH,AO,AQ,AL,BD,AX,AC,AA,EY,A7,AU,BL,CP,DV,↓reduceIte,Nat.reduceEqDiff,Option.getD_some,Bool.not_false,ha]
   refine ⟨.inl ?_,trivial⟩
   rw [List.take_of_length_le (by rw [J3]; omega)] at f5
   exact f5
 ·rintro F H' ⟨f5,rfl⟩
  rcases f5 with f5 | ⟨n,h1,h2,f5⟩
  ·simp -implicitDefEqProofs only [BB,AZ,BM,A8,EN,CU,AY,BC,AO,AQ,AL,BD,AX,AC,AA,A7,AU,BH,BF,BA,AGT,AB,ABC,↓reduceIte,Option.getD_some,Bool.not_false,f5]
   exact ⟨trivial,t.hx⟩
  ·simp -implicitDefEqProofs only [BB,AZ,BM,A8,EN,CU,AY,BC,AO,AQ,AL,BD,AX,AC,AA,A7,AU,BH,BF,BA,AGT,AB,ABC,↓reduceIte,Option.getD_some,Bool.not_false,f5]
   exact ⟨by congr 1; omega,t.hx⟩
/-- as many points as a cross has, and where they are -/
def placed (m:Mo) (c:Cr):Bool:=decide (2≤c.pts.length) && decide (c.pts.length≤4) && UK m.pts.length none c.pts
theorem AKC (G:Nat→AV) (m:Mo) (c:Cr) (h:Hp) (hl:c.pts.length≤1048576):PCall (En G) 171 [.agg (DU m),.agg (H6 c)] h (.bool (placed m c)):=by
 refine ACalls.pure0 rfl ?_
 refine CG (H:=Hint.none) (enM G) Tryz.func171 rfl (by kernel_rfl) (by kernel_rfl) (Nat.le_of_ble_eq_true (by kernel_rfl)) ?_
 show awp _ _ _ _ _ (EU _ [.tmp 4] _)
 have t:=Two.mk' h m c
 simp -implicitDefEqProofs only [BB,AZ,A8,AY,BC,AO,AQ,AL,BD,AX,AC,AA,A7,AU,BL,BA,FK,BO,BJ,BR,AB,BG,BV,↓reduceIte,Nat.reduceEqDiff,Nat.zero_add,Option.getD_some,Bool.not_false,enP,JJ,bxM,bxC]
 generalize h ++ [ABlk.live 2 [DU m]] ++ [ABlk.live 3 [H6 c]]=H at t ⊢
 generalize (h ++ [ABlk.live 2 [DU m]]).length=cb at t ⊢
 simp -implicitDefEqProofs only [AY,BK,BU,CO,AO,AQ,AL,BD,AX,AC,AA,A7,AU,BH,BF,BQ,DN,AB,CW,↓reduceIte,Option.getD_some,Bool.not_false,enP,IL,t.l1,List.length_map]
 refine H8 (fun h2 => ?_) (fun h2 => ?_)
 ·simp -implicitDefEqProofs only [BB,AZ,BM,BI,A8,CS,CU,DX,AY,BC,BK,BU,CO,F5,AO,AQ,AL,BD,AX,AC,AA,EY,A7,AU,BL,BA,CP,DW,↓reduceIte,Nat.reduceEqDiff,Option.getD_some,Bool.not_false,h2]
  have:decide (2≤c.pts.length)=false:=by simp at h2 ⊢; omega
  exact ⟨by unfold placed; rw [this]; rfl,t.hx⟩
 have d2:decide (2≤c.pts.length)=true:=by simp at h2 ⊢; omega
 simp -implicitDefEqProofs only [BI,A8,AY,BC,BK,BU,CO,EO,AO,AQ,AL,BD,AX,AC,AA,A7,AU,BH,BL,CP,DV,BO,BQ,BJ,DN,AB,EW,↓reduceIte,Nat.reduceEqDiff,Nat.zero_add,Option.getD_some,Bool.not_false,enP,IL,JJ,h2,t.l1,List.length_map]
 refine CQ (fun h3 => ?_) (fun h3 => ?_)
 ·simp -implicitDefEqProofs only [BB,AZ,BM,A8,CS,CU,AY,BC,AO,AQ,AL,BD,AX,AC,AA,AU,BL,BA,↓reduceIte,Option.getD_some,Bool.not_false]
  have:decide (c.pts.length≤4)=false:=by simp at h3 ⊢; omega
  exact ⟨by unfold placed; rw [this]; simp,t.hx⟩
 have d3:decide (c.pts.length≤4)=true:=by simp at h3 ⊢; omega
 have hpl:placed m c=UK m.pts.length none c.pts:=by unfold placed; rw [d2,d3]; rfl
 rw [hpl]
 simp -implicitDefEqProofs only [BB,BP,AZ,BN,A8,AY,BC,AO,AQ,AL,BD,AX,AC,AU,BH,BA,Option.getD_some,Bool.not_false]
 refine C9 (fun n F H' => ∃ k,n+k=c.pts.length∧F 2 = .ptr h.length 0 0∧F 3 = .ptr cb 0 0∧F 5 = .int .i64 (k:Nat)∧H'=H∧UK m.pts.length none c.pts=UK m.pts.length (prev c.pts k) (c.pts.drop k)) c.pts.length ⟨0,by simp,by simp -implicitDefEqProofs only [AA,↓reduceIte,Nat.reduceEqDiff],by simp -implicitDefEqProofs only [AA,↓reduceIte,Nat.reduceEqDiff],by simp -implicitDefEqProofs only [AA,↓reduceIte]; rfl,rfl,rfl⟩ ?_
 rintro n F H' ⟨k,hk,f2,f3,f5,rfl,hi⟩
 simp -implicitDefEqProofs only [BB,AZ,BI,A8,AY,BC,AO,AQ,AL,BD,AX,AC,AA,A7,BF,BO,BQ,BJ,DN,AB,CW,↓reduceIte,Nat.reduceEqDiff,Nat.zero_add,Option.getD_some,Bool.not_false,enP,IL,JJ,f3,f5,t.l1,List.length_map]
 refine CQ (fun hlt => ?_) (fun hlt => ?_)
 ·have hk':k < c.pts.length:=by simpa using hlt
  rw [AD9 _ _ _ hk'] at hi
  simp -implicitDefEqProofs only [BB,BP,BN,A8]
  refine ER (by kernel_rfl) ?_
  simp -implicitDefEqProofs only [F7,D9,DT,EC,FQ,GR,FH,FC,IE,D5,D7,CO,AO,AA,A7,AU,BH,BO,BQ,BJ,BZ,AB,CW,↓reduceIte,Nat.reduceEqDiff,Nat.reduceAdd,Nat.zero_add,Option.getD_some,enP,JQ,JJ,f2,f3,f5,t.l1,DJ hk',CV ag3 hk',encI0]
  refine AJQ (fun ha => ?_) (fun ha => ?_)
  ·simp -implicitDefEqProofs only [F7,D9,DT,E8,EC,FQ,GR,AC0,AYA,FH,I4,BB,AZ,BM,BI,A8,CS,EG,FM,CU,DX,AY,BC,CO,AO,AQ,AL,BD,AX,AC,AA,EY,A7,AU,BL,BA,CP,DW,↓reduceIte,Nat.reduceEqDiff,Nat.reduceAdd,Option.getD_some,Bool.not_false,ha]
   have:decide (0≤c.pts[k])=false:=by simp at ha ⊢; omega
   exact ⟨by rw [hi,this]; rfl,t.hx⟩
  have ha':decide (0≤c.pts[k])=true:=by simp at ha ⊢; omega
  simp -implicitDefEqProofs only [F7,D9,DT,EC,FQ,GR,QO,FH,I4,FC,IE,D5,D7,GV,CO,AO,AA,A7,AU,BL,CP,DV,BO,BQ,BJ,BZ,DN,AB,G7,↓reduceIte,Nat.reduceEqDiff,Nat.reduceAdd,Nat.add_zero,Nat.zero_add,Option.getD_some,enP,QE,IG,JQ,JJ,ha,f2,f3,f5,t.lm,t.l1,DJ hk',CV ag3 hk',encI0,List.length_map]
  refine AJQ (fun hb => ?_) (fun hb => ?_)
  ·simp -implicitDefEqProofs only [F7,D9,DT,E8,EC,FQ,GR,AC0,AYA,I4,BB,AZ,BM,BI,A8,CS,EG,FM,CU,DX,AY,BC,CO,AO,AQ,AL,BD,AX,AC,AA,EY,A7,AU,BL,BA,CP,DW,↓reduceIte,Nat.reduceEqDiff,Nat.reduceAdd,Option.getD_some,Bool.not_false,hb]
   have:decide (c.pts[k] < (m.pts.length:Int))=false:=by simp at hb ⊢; omega
   exact ⟨by rw [hi,this,ha']; rfl,t.hx⟩
  have hb':decide (c.pts[k] < (m.pts.length:Int))=true:=by simp at hb ⊢; omega
  rw [ha',hb'] at hi
  simp only [Bool.true_and] at hi
  cases k with
  | zero =>
    have hz:decide ((((0:Nat):Int)) > 0)=false:=by decide
    simp -implicitDefEqProofs only [F7,D9,DT,E8,EC,FQ,GR,QO,ACZ,FH,I4,IE,AZ,BN,BI,A8,D8,ED,DY,AY,BC,CO,AO,AQ,AL,BD,AX,AC,AA,EY,A7,AU,BH,BL,BF,BA,CP,DV,BQ,AB,CZ,EW,↓reduceIte,Nat.reduceEqDiff,Nat.reduceAdd,Nat.zero_add,Option.getD_some,Bool.not_false,enP,hb,hz,f5,wrap_succ (show 0 < 9223372036854775807 by omega)]
    exact ⟨n - 1,by omega,1,by omega,f2,f3,rfl,trivial,by rw [hi]; rfl⟩
  | succ k =>
    have hz:decide ((((k+1:Nat):Int)) > 0)=true:=by simp
    have hw:IntKind.i64.wrap (((k+1:Nat):Int) - 1)=(k:Int):=by rw [wrap_i64 (by omega) (by omega)]; omega
    have hk2:k < c.pts.length:=by omega
    have hpv:prev c.pts (k+1)=some c.pts[k]:=by unfold prev; exact List.getElem?_eq_getElem hk2
    rw [hpv] at hi
    simp -implicitDefEqProofs only [F7,D9,DT,E8,EC,FQ,GR,SL,QO,FH,I4,FC,IE,D5,D7,BI,A8,CO,AO,AA,A7,AU,BH,BL,CP,DW,DV,BO,BQ,BJ,BZ,AB,KY,KZ,EW,↓reduceIte,Nat.reduceEqDiff,Nat.reduceAdd,Nat.zero_add,Option.getD_some,enP,JQ,JJ,hb,hz,f3,f5,t.l1,hw,DJ hk',DJ hk2,CV ag3 hk',CV ag3 hk2,encI0]
    refine CQ (fun hd => ?_) (fun hd => ?_)
    ·simp -implicitDefEqProofs only [BB,AZ,BM,A8,CS,EG,FM,CU,AY,BC,AO,AQ,AL,BD,AX,AC,AA,AU,BL,BA,↓reduceIte,Option.getD_some,Bool.not_false]
     have:decide (c.pts[k] < c.pts[k+1])=false:=by simp at hd ⊢; omega
     exact ⟨by rw [hi]; simp only [this]; rfl,t.hx⟩
    ·simp -implicitDefEqProofs only [AZ,BN,A8,D8,ED,AY,BC,AO,AQ,AL,BD,AX,AC,AA,A7,AU,BH,BF,BA,BQ,AB,CZ,↓reduceIte,Nat.reduceEqDiff,Option.getD_some,Bool.not_false,enP,f5,wrap_succ (show k+1 < 9223372036854775807 by omega)]
     have:decide (c.pts[k] < c.pts[k+1])=true:=by simp at hd ⊢; omega
     exact ⟨n - 1,by omega,k+1+1,by omega,f2,f3,rfl,trivial,by rw [hi]; simp only [this]; rfl⟩
 ·have hk' : ¬ k < c.pts.length:=by simpa using hlt
  simp -implicitDefEqProofs only [BB,AZ,BM,DC,A8,DZ,EN,EP,CU,AY,BC,AO,AQ,AL,BD,AX,AC,AA,AU,BL,BA,↓reduceIte,Option.getD_some,Bool.not_false]
  exact ⟨by rw [hi,List.drop_eq_nil_of_le (by omega)]; rfl,t.hx⟩
theorem ZR (G:Nat→AV) (m:Mo) (c:Cr) (x:Is) (h:Hp) (hh:Here m c.pts) (hl:c.pts.length≤1048576):PCall (En G) 172 [.agg (DU m),.agg (H6 c),.sl x.m 1 (x.l.map encI)] h (.bool (LY (szs m c.pts) x.l)):=by
 refine ACalls.pure0 rfl ?_
 refine CG (H:=Hint.none) (enM G) Tryz.func172 rfl (by kernel_rfl) (by kernel_rfl) (Nat.le_of_ble_eq_true (by kernel_rfl)) ?_
 show awp _ _ _ _ _ (EU _ [.tmp 6] _)
 have t:=Two.mk' h m c
 simp -implicitDefEqProofs only [BB,AZ,A8,AY,BC,AO,AQ,AL,BD,AX,AC,AA,A7,AU,BL,BF,BA,FK,BO,BJ,DN,BR,AB,BG,BV,↓reduceIte,Nat.reduceEqDiff,Nat.zero_add,Option.getD_some,Bool.not_false,enP,IL,JJ,bxM,bxC]
 generalize h ++ [ABlk.live 2 [DU m]] ++ [ABlk.live 3 [H6 c]]=H at t ⊢
 generalize (h ++ [ABlk.live 2 [DU m]]).length=cb at t ⊢
 simp -implicitDefEqProofs only [BI,A8,AY,BC,AO,AQ,AL,BD,AX,AC,AA,A7,BQ,DN,AB,EQ,↓reduceIte,Nat.reduceEqDiff,Option.getD_some,Bool.not_false,enP,IL,t.l1,List.length_map]
 refine CQ (fun h2 => ?_) (fun h2 => ?_)
 ·simp -implicitDefEqProofs only [BB,AZ,BM,A8,CS,CU,AY,BC,AO,AQ,AL,BD,AX,AC,AA,AU,BL,BA,↓reduceIte,Option.getD_some,Bool.not_false]
  have:LY (szs m c.pts) x.l=false:=by
   rw [← Bool.not_eq_true]; intro e
   have:=PH e
   rw [J3] at this
   simp at h2; omega
  exact ⟨by rw [this],t.hx⟩
 have hlen:x.l.length=c.pts.length:=by simp at h2; omega
 simp -implicitDefEqProofs only [BB,BP,AZ,BN,A8,AY,BC,AO,AQ,AL,BD,AX,AC,AU,BH,BA,Option.getD_some,Bool.not_false]
 refine C9 (fun n F H' => ∃ k,n+k=x.l.length∧F 2 = .sl x.m 1 (x.l.map encI)∧F 3 = .ptr h.length 0 0∧F 4 = .ptr cb 0 0∧F 7 = .int .i64 (k:Nat)∧H'=H∧LY (szs m c.pts) x.l=LY ((szs m c.pts).drop k) (x.l.drop k)) x.l.length ⟨0,by simp,by simp -implicitDefEqProofs only [AA,BG,BV,↓reduceIte,Nat.reduceEqDiff],by simp -implicitDefEqProofs only [AA,↓reduceIte,Nat.reduceEqDiff],by simp -implicitDefEqProofs only [AA,↓reduceIte,Nat.reduceEqDiff],by simp -implicitDefEqProofs only [AA,↓reduceIte]; rfl,rfl,rfl⟩ ?_
 rintro n F H' ⟨k,hk,f2,f3,f4,f7,rfl,hi⟩
 simp -implicitDefEqProofs only [BB,AZ,BI,A8,AY,BC,AO,AQ,AL,BD,AX,AC,AA,A7,BF,BQ,DN,AB,CW,↓reduceIte,Nat.reduceEqDiff,Option.getD_some,Bool.not_false,enP,IL,f2,f7,List.length_map]
 refine CQ (fun hlt => ?_) (fun hlt => ?_)
 ·have hk':k < x.l.length:=by simpa using hlt
  have hkc:k < c.pts.length:=by omega
  have hks:k < (szs m c.pts).length:=by rw [J3]; exact hkc
  have hgt:(szs m c.pts)[k]=(II m c.pts[k]).length:=GZ (U4 m c.pts k hkc)
  rw [List.drop_eq_getElem_cons hk',List.drop_eq_getElem_cons hks,hgt] at hi
  obtain ⟨s,ls⟩:=hh.ld hkc H'
  simp -implicitDefEqProofs only [BB,BP,BN,A8]
  refine ER (by kernel_rfl) ?_
  simp -implicitDefEqProofs only [F7,D9,DT,EC,FQ,GR,FH,FC,IE,D7,CO,AO,AA,A7,AU,BH,BO,BQ,BZ,AB,CW,↓reduceIte,Nat.reduceEqDiff,Nat.reduceAdd,Option.getD_some,enP,JQ,f2,f3,f4,f7,DJ hk',CV ag3 hk',encI0]
  refine AJQ (fun ha => ?_) (fun ha => ?_)
  ·simp -implicitDefEqProofs only [F7,D9,DT,E8,EC,FQ,GR,AC0,I4,BB,AZ,BM,BI,A8,CS,EG,FM,CU,DX,AY,BC,CO,AO,AQ,AL,BD,AX,AC,AA,EY,A7,AU,BL,BA,CP,DW,↓reduceIte,Nat.reduceEqDiff,Nat.reduceAdd,Option.getD_some,Bool.not_false,ha]
   have:decide (0≤x.l[k])=false:=by simp at ha ⊢; omega
   exact ⟨by rw [hi]; unfold LY; rw [this]; rfl,t.hx⟩
  have h0:decide (0≤x.l[k])=true:=by simp at ha ⊢; omega
  simp -implicitDefEqProofs only [F7,D9,DT,E8,EC,FQ,GR,QO,FH,I4,FC,IE,D5,D7,GV,BI,A8,CO,AO,AA,A7,AU,BL,CP,DV,BO,BQ,BJ,BZ,DN,AB,G7,↓reduceIte,Nat.reduceEqDiff,Nat.reduceAdd,Nat.add_zero,Nat.zero_add,Option.getD_some,enP,OJ,IG,QS,IU,JQ,JJ,ha,f2,f3,f4,f7,t.lm,t.l1,DJ hk',CV ag3 hk',DJ hkc,CV ag3 hkc,encI0,hh.ix hkc,ls,List.length_map]
  refine CQ (fun hd => ?_) (fun hd => ?_)
  ·simp -implicitDefEqProofs only [BB,AZ,BM,A8,CS,EG,FM,CU,AY,BC,AO,AQ,AL,BD,AX,AC,AA,AU,BL,BA,↓reduceIte,Option.getD_some,Bool.not_false]
   have:decide (x.l[k] < ((II m c.pts[k]).length:Int))=false:=by simp at hd ⊢; omega
   exact ⟨by rw [hi]; unfold LY; rw [this,h0]; rfl,t.hx⟩
  ·simp -implicitDefEqProofs only [AZ,BN,A8,D8,ED,AY,BC,AO,AQ,AL,BD,AX,AC,AA,A7,AU,BH,BF,BA,BQ,AB,CZ,↓reduceIte,Nat.reduceEqDiff,Option.getD_some,Bool.not_false,enP,f7,wrap_succ (show k < 9223372036854775807 by omega)]
   have h1:decide (x.l[k] < ((II m c.pts[k]).length:Int))=true:=by simp at hd ⊢; omega
   refine ⟨n - 1,by omega,k+1,by omega,f2,f3,f4,rfl,trivial,?_⟩
   rw [hi]
   conv=>lhs; unfold LY
   rw [h0,h1]; rfl
 ·have hk' : ¬ k < x.l.length:=by simpa using hlt
  simp -implicitDefEqProofs only [BB,AZ,BM,DC,A8,DZ,EN,EP,CU,AY,BC,AO,AQ,AL,BD,AX,AC,AA,AU,BL,BA,↓reduceIte,Option.getD_some,Bool.not_false]
  exact ⟨by rw [hi,List.drop_eq_nil_of_le (show x.l.length≤k by omega),List.drop_eq_nil_of_le (by rw [J3]; omega)]; rfl,t.hx⟩
theorem AO5 (G:Nat→AV) (m:Mo) (c:Cr) (hc:CrOk c) (hf:Full m) (h:Hp):PCall (En G) 108 [.agg (DU m),.agg (H6 c)] h (.int .i64 (IA m c)):=by
 refine ACalls.pure0 rfl ?_
 have hc2:=hc.pts
 have hc3:=hc.excl
 refine CG (H:=Hint.none) (enM G) Tryz.func108 rfl (by kernel_rfl) (by kernel_rfl) (Nat.le_of_ble_eq_true (by kernel_rfl)) ?_
 show awp _ _ _ _ _ (EU _ [.tmp 4] _)
 have t:=Two.mk' h m c
 simp -implicitDefEqProofs only [BB,AZ,A8,AY,BC,AO,AQ,AL,BD,AX,AC,AA,A7,AU,BH,BA,FK,BO,BJ,BR,AB,BG,BV,↓reduceIte,Nat.reduceEqDiff,Nat.add_zero,Option.getD_some,Bool.not_false,enP,AF1,bxM,bxC]
 generalize h ++ [ABlk.live 2 [DU m]] ++ [ABlk.live 3 [H6 c]]=H at t ⊢
 generalize (h ++ [ABlk.live 2 [DU m]]).length=cb at t ⊢
 simp -implicitDefEqProofs only [AY,AO,AQ,AL,BD,AX,AC,AA,A7,CB,CE,BX,AB,List.map_cons,List.map_nil,List.append_nil,↓reduceIte,Option.getD_some,Bool.not_false,t.l0]
 refine (OV G c.name _).use ?_
 simp -implicitDefEqProofs only [BI,A8,AY,BC,AO,AQ,AL,BD,AX,AC,AA,A7,H9,AB,FB,↓reduceIte,Option.getD_some,Bool.not_false]
 cases h1:G9 c.name
 ·simp -implicitDefEqProofs only [BB,AZ,BM,A8,CS,CU,DX,AY,BC,AO,AQ,AL,BD,AX,AC,AA,AU,BH,BA,↓reduceIte,Option.getD_some,Bool.not_false]
  exact ⟨by unfold IA; rw [if_pos h1],t.hx⟩
 have h1' : ¬ G9 c.name=false:=by rw [h1]; decide
 simp -implicitDefEqProofs only [BB,AZ,BN,A8,DY,AY,AO,AQ,AL,BD,AX,AC,AA,A7,CB,BO,CE,BX,AB,List.map_cons,List.map_nil,List.append_nil,↓reduceIte,Nat.reduceEqDiff,Option.getD_some,Bool.not_true,Bool.not_false,enP,ldM t.gm,ldC t.gc]
 refine (AKC G m c _ (by omega)).use ?_
 simp -implicitDefEqProofs only [BI,A8,AY,BC,AO,AQ,AL,BD,AX,AC,AA,A7,H9,AB,FB,↓reduceIte,Option.getD_some,Bool.not_false]
 cases h2:placed m c
 ·simp -implicitDefEqProofs only [BB,AZ,BM,A8,CS,CU,DX,AY,BC,AO,AQ,AL,BD,AX,AC,AA,AU,BH,BA,↓reduceIte,Option.getD_some,Bool.not_false]
  refine ⟨?_,t.hx⟩
  unfold IA; rw [if_neg h1']
  unfold placed at h2
  split
  ·rfl
  ·rename_i h3
   have d2:decide (2≤c.pts.length)=true:=by simp; omega
   have d3:decide (c.pts.length≤4)=true:=by simp; omega
   rw [d2,d3] at h2
   rw [if_pos (by simpa using h2)]
 unfold placed at h2
 simp only [Bool.and_eq_true,decide_eq_true_eq] at h2
 obtain ⟨⟨h3,h4⟩,h5⟩:=h2
 have h23 : ¬ (c.pts.length < 2∨4 < c.pts.length):=by omega
 have hi' : ¬ UK m.pts.length none c.pts=false:=by rw [h5]; decide
 have hh:=VC h5
 simp -implicitDefEqProofs only [BB,AZ,BN,A8,DY,AY,AO,AQ,AL,BD,AX,AC,AA,A7,CB,BO,CE,BX,AB,List.map_cons,List.map_nil,List.append_nil,↓reduceIte,Nat.reduceEqDiff,Option.getD_some,Bool.not_true,Bool.not_false,enP,ldM t.gm,ldC t.gc]
 refine (YP G m c _ hh hf (by omega)).use ?_
 simp -implicitDefEqProofs only [AY,BK,BU,CO,AO,AQ,AL,BD,AX,AC,AA,A7,AU,BH,BF,BQ,AB,EW,↓reduceIte,Option.getD_some,Bool.not_false,enP]
 refine H8 (fun ha => ?_) (fun ha => ?_)
 ·simp -implicitDefEqProofs only [BB,AZ,BM,BI,A8,CS,CU,DX,AY,BC,BK,BU,CO,F5,AO,AQ,AL,BD,AX,AC,AA,EY,A7,AU,BH,BL,BA,CP,DW,↓reduceIte,Nat.reduceEqDiff,Option.getD_some,Bool.not_false,ha]
  exact ⟨by unfold IA; rw [if_neg h1',if_neg h23,if_neg hi',if_pos (.inl (by simp at ha; omega))],t.hx⟩
 simp -implicitDefEqProofs only [BI,A8,AY,BC,BK,BU,CO,EO,AO,AQ,AL,BD,AX,AC,AA,A7,AU,BH,BL,CP,DV,BO,BQ,BJ,DN,AB,EW,↓reduceIte,Nat.reduceEqDiff,Nat.zero_add,Option.getD_some,Bool.not_false,enP,YF,PM,ha,t.l2,List.length_map]
 refine CQ (fun hb => ?_) (fun hb => ?_)
 ·simp -implicitDefEqProofs only [BB,AZ,BM,A8,CS,CU,AY,BC,AO,AQ,AL,BD,AX,AC,AA,AU,BH,BA,↓reduceIte,Option.getD_some,Bool.not_false]
  exact ⟨by unfold IA; rw [if_neg h1',if_neg h23,if_neg hi',if_pos (.inr (by simp at hb; omega))],t.hx⟩
 have hab : ¬ (256 < FY (szs m c.pts)∨256 < c.excl.length):=by simp at ha hb; omega
 have hce:IA m c=if (c.excl.any fun x => !LY (szs m c.pts) x.l) then 1 else 0:=by
  unfold IA; rw [if_neg h1',if_neg h23,if_neg hi',if_neg hab]
 simp -implicitDefEqProofs only [BB,BP,AZ,BN,A8,AY,BC,AO,AQ,AL,BD,AX,AC,AU,BH,BA,Option.getD_some,Bool.not_false]
 refine C9 (fun n F H' => ∃ k,n+k=c.excl.length∧F 2 = .ptr h.length 0 0∧F 3 = .ptr cb 0 0∧F 5 = .int .i64 (k:Nat)∧H'=H∧(c.excl.any fun x => !LY (szs m c.pts) x.l)=((c.excl.drop k).any fun x => !LY (szs m c.pts) x.l)) c.excl.length ⟨0,by simp,by simp -implicitDefEqProofs only [AA,↓reduceIte,Nat.reduceEqDiff],by simp -implicitDefEqProofs only [AA,↓reduceIte,Nat.reduceEqDiff],by simp -implicitDefEqProofs only [AA,↓reduceIte]; rfl,rfl,rfl⟩ ?_
 rintro n F H' ⟨k,hk,f2,f3,f5,rfl,hi⟩
 simp -implicitDefEqProofs only [BB,AZ,BI,A8,AY,BC,AO,AQ,AL,BD,AX,AC,AA,A7,BF,BO,BQ,BJ,DN,AB,CW,↓reduceIte,Nat.reduceEqDiff,Nat.zero_add,Option.getD_some,Bool.not_false,enP,YF,PM,f3,f5,t.l2,List.length_map]
 refine CQ (fun hlt => ?_) (fun hlt => ?_)
 ·have hk':k < c.excl.length:=by simpa using hlt
  have hs:=LV (fun x:Is => !LY (szs m c.pts) x.l) c.excl k hk'
  simp -implicitDefEqProofs only [BB,BP,BN,A8]
  refine ER (by kernel_rfl) ?_
  simp -implicitDefEqProofs only [F7,D9,DT,EC,FH,FC,AE6,D5,D7,GM,F6,AO,AA,A7,CB,BO,H9,BJ,BZ,AB,List.map_cons,List.map_nil,List.append_nil,↓reduceIte,Nat.reduceEqDiff,Nat.reduceAdd,Nat.zero_add,Option.getD_some,enP,QT,PM,f2,f3,f5,ldM t.gm,ldC t.gc,t.l2,DJ hk',CV LC hk',NC]
  refine ⟨_,ZR G m c c.excl[k] _ hh (by omega),?_⟩
  try simp -implicitDefEqProofs only [DT,E8,BI,A8,AA,A7,AB,FB,↓reduceIte]
  cases hx:LY (szs m c.pts) c.excl[k].l
  ·simp -implicitDefEqProofs only [BB,AZ,BM,A8,CS,EG,FM,CU,DX,AY,BC,AO,AQ,AL,BD,AX,AC,AA,AU,BH,BA,↓reduceIte,Option.getD_some,Bool.not_false]
   exact ⟨by rw [hce,hi,hs,hx]; rfl,t.hx⟩
  ·simp -implicitDefEqProofs only [AZ,BN,A8,D8,ED,DY,AY,BC,AO,AQ,AL,BD,AX,AC,AA,A7,AU,BH,BF,BA,BQ,AB,CZ,↓reduceIte,Nat.reduceEqDiff,Option.getD_some,Bool.not_true,Bool.not_false,enP,f5,wrap_succ (show k < 9223372036854775807 by omega)]
   refine ⟨n - 1,by omega,k+1,by omega,f2,f3,rfl,trivial,?_⟩
   rw [hi,hs,hx]; rfl
 ·have hk' : ¬ k < c.excl.length:=by simpa using hlt
  simp -implicitDefEqProofs only [BB,AZ,BM,DC,A8,DZ,EN,EP,CU,AY,BC,AO,AQ,AL,BD,AX,AC,AA,AU,BH,BA,↓reduceIte,Option.getD_some,Bool.not_false]
  exact ⟨by rw [hce,hi,List.drop_eq_nil_of_le (by omega)]; rfl,t.hx⟩
end Go.Proofs.YtocilianjfhifaaGreatDoor.Cov
/- The error of a model: the program; no condition but the variables that are laid and the bounds on lengths. -/
set_option linter.unusedSimpArgs false
set_option maxRecDepth 8000
namespace Go.Proofs.YtocilianjfhifaaGreatDoor.Cov
open Go Go.Proofs Go.Proofs.YtocilianjfhifaaGreatDoor.Sm Go.Proofs.YtocilianjfhifaaGreatDoor.Bins Go.RowKit

structure MoOk (m:Mo):Prop where
 np:m.pts.length≤1048576
 nc:m.crs.length≤1048576
 pts : ∀ p∈m.pts,PtOk p
 crs : ∀ c∈m.crs,CrOk c
def FU (m:Mo):Int :=
 if 16 < m.pts.length+m.crs.length then 2 else if KF H7 m.pts≠0 then KF H7 m.pts else if OM (m.pts.map (·.name)) then 8 else
  if KF (IA m) m.crs≠0 then KF (IA m) m.crs else if OM (m.crs.map (·.name)) then 8 else 0
theorem ABV {α:Type} (f:α→Int) : ∀ {xs:List α},KF f xs=0→∀ x∈xs,f x=0
 | [],_,_,hx=>by cases hx
 | y :: ys,h,x,hx=>by
   simp only [KF] at h
   split at h
   ·rename_i h0
    cases List.mem_cons.1 hx with
    | inl e=>subst e; exact h0
    | inr e=>exact ABV f h x e
   ·rename_i h0; exact absurd h h0
theorem AHR {p:Pt} (h:H7 p=0):1≤p.bins.length∧p.bins.length≤64:=by
 unfold H7 at h
 split at h
 ·cases h
 ·split at h
  ·rename_i h2; exact absurd h h2
  ·split at h
   ·cases h
   ·split at h
    ·cases h
    ·omega
theorem full_of {m:Mo} (h:KF H7 m.pts=0):Full m:=fun p hp=>AHR (ABV _ h p hp)
theorem AVG (h:Hp):KD Tryz.prog h 56=some (.ptr h.length 0 0,h ++ [.live 6 [[.str ⟨#[]⟩,.int .i64 0,.int .i64 0,.str ⟨#[]⟩,.sl .nil 0 [],.sl .nil 0 []]]]):=JY (row := [.str ⟨#[]⟩,.int .i64 0,.int .i64 0,.str ⟨#[]⟩,.sl .nil 0 [],.sl .nil 0 []]) (by kernel_rfl)
theorem ATA (h:Hp) (p:Pt) (row:List AV) (hr:row.length=6):GG Tryz.prog (h ++ [.live 6 [row]]) 56 (.ptr h.length 0 0) (.agg (IM p))=some (h ++ [.live 6 [IM p]]):=by
 rw [OU (UZ (AEM p)) (by rw [J8]; exact ZM) (by rw [J8,hr]; exact Nat.le_refl _)]
 have:splice row 0 (IM p)=IM p:=by unfold splice; simp [J8,hr]
 rw [this]
theorem ldP {h:Hp} {b:Nat} {p:Pt} (hb:h[b]? = some (.live 6 [IM p])):EE Tryz.prog h 56 (.ptr b 0 0)=some (.agg (IM p)):=by
 rw [JE AGM ZM hb rfl (by rw [J8]; exact Nat.le_refl 6),List.drop_zero,List.take_of_length_le (by rw [J8]; exact Nat.le_refl 6)]
theorem AVF (h:Hp):KD Tryz.prog h 71=some (.ptr h.length 0 0,h ++ [.live 3 [[.str ⟨#[]⟩,.sl .nil 0 [],.sl .nil 0 []]]]):=JY (row := [.str ⟨#[]⟩,.sl .nil 0 [],.sl .nil 0 []]) (by kernel_rfl)
theorem AS9 (h:Hp) (c:Cr) (row:List AV) (hr:row.length=3):GG Tryz.prog (h ++ [.live 3 [row]]) 71 (.ptr h.length 0 0) (.agg (H6 c))=some (h ++ [.live 3 [H6 c]]):=by
 rw [OU (UZ rfl) (by rw [KG]; exact X7) (by rw [KG,hr]; exact Nat.le_refl _)]
 have:splice row 0 (H6 c)=H6 c:=by unfold splice; simp [KG,hr]
 rw [this]
theorem WB (G:Nat→AV) (hG:GOk G) (m:Mo) (hm:MoOk m) (h:Hp):PCall (En G) 68 [.agg (DU m)] h (.int .i64 (FU m)):=by
 refine ACalls.pure0 rfl ?_
 have hm1:=hm.np
 have hm2:=hm.nc
 refine CG (H:=Hint.none) (enM G) Tryz.func68 rfl (by kernel_rfl) (by kernel_rfl) (Nat.le_of_ble_eq_true (by kernel_rfl)) ?_
 show awp _ _ _ _ _ (EU _ [.tmp 2] _)
 have hw:IntKind.i64.wrap ((m.pts.length:Int)+(m.crs.length:Int))=(m.pts.length:Int)+(m.crs.length:Int):=wrap_i64 (by omega) (by omega)
 simp -implicitDefEqProofs only [BB,AZ,BI,A8,AY,BC,AO,AQ,AL,BD,AX,AC,AA,A7,AU,BH,BA,FK,BO,BQ,BJ,DN,BR,AB,CZ,EW,BG,↓reduceIte,Nat.reduceEqDiff,Nat.add_zero,Nat.zero_add,Option.getD_some,Bool.not_false,enP,QE,TB,IG,IX,bxM,DI VN,DI YV,QK,TP,List.length_map,hw]
 refine CQ (fun h1 => ?_) (fun h1 => ?_)
 ·simp -implicitDefEqProofs only [BB,AZ,BM,A8,CS,CU,AY,BC,AO,AQ,AL,BD,AX,AC,AA,AU,BH,BA,↓reduceIte,Option.getD_some,Bool.not_false]
  exact ⟨by unfold FU; rw [if_pos (by simp at h1; omega)],_,rfl⟩
 have h1' : ¬ 16 < m.pts.length+m.crs.length:=by simp at h1; omega
 have hme:FU m=if KF H7 m.pts≠0 then KF H7 m.pts else if OM (m.pts.map (·.name)) then 8 else if KF (IA m) m.crs≠0 then KF (IA m) m.crs else if OM (m.crs.map (·.name)) then 8 else 0:=by
  unfold FU; rw [if_neg h1']
 have lm0 : ∀ H:Hp,H[h.length]? = some (.live 2 [DU m])→EE Tryz.prog H 22 (.ptr h.length 0 0)=some (.sl m.pm 6 (m.pts.map IM)):=fun H hH=>by rw [D6 VN hH (row:=DU m) rfl,QK]
 have lm1 : ∀ H:Hp,H[h.length]? = some (.live 2 [DU m])→EE Tryz.prog H 23 (.ptr h.length 0 1)=some (.sl m.cm 3 (m.crs.map H6)):=fun H hH=>by rw [D6 YV hH (row:=DU m) rfl,TP]
 simp -implicitDefEqProofs only [BB,BP,AZ,BN,A8,AY,BC,AO,AQ,AL,BD,AX,AC,AA,A7,AU,BH,BF,BO,BJ,DN,AB,↓reduceIte,Nat.reduceEqDiff,Nat.add_zero,Option.getD_some,Bool.not_false,enP,QE,IG,DI VN,QK,List.length_map]
 refine F8 0 (fun F H=>F 1 = .ptr h.length 0 0∧H[h.length]? = some (.live 2 [DU m])∧(∃ x,H=h ++ x)∧KF H7 m.pts=0) (fun F H=>F 2 = .int .i64 (FU m)∧∃ x,H=h ++ x) ?_ ?_ ?_
 ·refine C9 (fun n F H => ∃ k,n+k=m.pts.length∧F 1 = .ptr h.length 0 0∧F 18 = .sl m.pm 6 (m.pts.map IM)∧F 19 = .int .i64 m.pts.length∧F 20 = .int .i64 (k:Nat)∧H[h.length]? = some (.live 2 [DU m])∧(∃ x,H=h ++ x)∧KF H7 m.pts=KF H7 (m.pts.drop k)) m.pts.length ⟨0,by simp,by simp -implicitDefEqProofs only [AA,↓reduceIte,Nat.reduceEqDiff],by simp -implicitDefEqProofs only [AA,↓reduceIte,Nat.reduceEqDiff],by simp -implicitDefEqProofs only [AA,↓reduceIte,Nat.reduceEqDiff],by simp -implicitDefEqProofs only [AA,↓reduceIte]; rfl,CX _ _,⟨_,rfl⟩,rfl⟩ ?_
  rintro n F H ⟨k,hk,f1,f18,f19,f20,hb,⟨x,hx⟩,hf⟩
  simp -implicitDefEqProofs only [BB,AZ,BI,A8,AY,BC,AO,AQ,AL,BD,AX,AC,AA,A7,BQ,AB,CW,↓reduceIte,Option.getD_some,Bool.not_false,enP,f19,f20]
  refine CQ (fun hc => ?_) (fun hc => ?_)
  ·have hk':k < m.pts.length:=by simpa using hc
   have hs:=P6 H7 m.pts k hk'
   simp -implicitDefEqProofs only [BB,BP,AZ,BN,A8,AY,BC,AO,AQ,AL,BD,AX,AC,EZ,AA,A7,CB,FW,BO,EI,BZ,CE,BX,BR,AB,DR,List.map_cons,List.map_nil,List.append_nil,↓reduceIte,Nat.reduceEqDiff,Option.getD_some,Bool.not_false,enP,OJ,Option.getD_none,f18,f20,DJ hk',FD AGM ZM J8 hk',AVG,ATA _ _ [.str ⟨#[]⟩,.int .i64 0,.int .i64 0,.str ⟨#[]⟩,.sl .nil 0 [],.sl .nil 0 []] rfl,ldP (CX H (.live 6 [IM m.pts[k]]))]
   refine (AKA G hG m.pts[k] (hm.pts _ (List.getElem_mem hk')) _).use ?_
   simp -implicitDefEqProofs only [BB,AZ,BI,A8,AY,BC,AO,AQ,AL,BD,AX,AC,AA,A7,AU,BH,BF,BA,BQ,AB,EQ,↓reduceIte,Option.getD_some,Bool.not_false,enP]
   refine CQ (fun hv => ?_) (fun hv => ?_)
   ·simp -implicitDefEqProofs only [BB,AZ,BM,A8,CS,EG,LW,FM,AY,BC,AO,AQ,AL,BD,AX,AC,AA,A7,BF,BA,↓reduceIte,Nat.reduceEqDiff,Option.getD_some,Bool.not_false]
    have hv':H7 m.pts[k]≠0:=by simpa using hv
    have:KF H7 m.pts=H7 m.pts[k]:=by rw [hf,hs,if_neg hv']
    exact ⟨by rw [hme,this,if_pos hv'],x ++ _,by rw [hx,List.append_assoc]⟩
   ·have hv':H7 m.pts[k]=0:=by simpa using hv
    simp -implicitDefEqProofs only [AZ,BN,A8,D8,ED,AY,BC,AO,AQ,AL,BD,AX,AC,AA,A7,AU,BH,BF,BQ,AB,CZ,↓reduceIte,Nat.reduceEqDiff,Option.getD_some,Bool.not_false,enP,f20,wrap_succ (show k < 9223372036854775807 by omega)]
    exact ⟨n - 1,by omega,k+1,by omega,f1,f18,f19,rfl,DL hb,⟨x ++ _,by rw [hx,List.append_assoc]⟩,by rw [hf,hs,if_pos hv']⟩
  ·have hk' : ¬ k < m.pts.length:=by simpa using hc
   simp -implicitDefEqProofs only [DC,DZ,JM,EP,AA,↓reduceIte,Nat.reduceEqDiff]
   exact ⟨f1,hb,⟨x,hx⟩,by rw [hf,List.drop_eq_nil_of_le (by omega)]; rfl⟩
 ·rintro F H ⟨f1,hb,hx0,hf⟩
  have hfull:=full_of hf
  rw [hf,if_neg (fun hh=>hh rfl)] at hme
  simp -implicitDefEqProofs only [BB,AZ,A8,EN,AY,AO,AQ,AL,BD,AX,AC,AA,A7,CB,BO,BJ,CE,BX,AB,List.map_cons,List.map_nil,List.append_nil,↓reduceIte,Nat.add_zero,Option.getD_some,Bool.not_false,enP,IG,f1,lm0 _ hb]
  refine (AN5 G m.pts m.pm H (by omega)).use ?_
  simp -implicitDefEqProofs only [BI,A8,BC,AC,AA,A7,↓reduceIte]
  cases hd:OM (m.pts.map (·.name))
  case true =>
   simp -implicitDefEqProofs only [BB,AZ,BM,A8,CS,CU,DX,AY,BC,AO,AQ,AL,BD,AX,AC,AA,AU,BH,BA,↓reduceIte,Option.getD_some,Bool.not_false]
   exact ⟨by rw [hme,hd]; rfl,hx0⟩
  rw [hd] at hme
  simp only [Bool.false_eq_true,if_false] at hme
  simp -implicitDefEqProofs only [BB,BP,AZ,BN,A8,DY,AY,BC,AO,AQ,AL,BD,AX,AC,AA,A7,AU,BH,BF,BO,BJ,DN,AB,↓reduceIte,Nat.reduceEqDiff,Nat.zero_add,Option.getD_some,Bool.not_false,enP,TB,IX,f1,lm1 _ hb,List.length_map]
  refine F8 2 (fun F H=>F 1 = .ptr h.length 0 0∧H[h.length]? = some (.live 2 [DU m])∧(∃ x,H=h ++ x)∧KF (IA m) m.crs=0) (fun F H=>F 2 = .int .i64 (FU m)∧∃ x,H=h ++ x) ?_ ?_ ?_
  ·refine C9 (fun n F H => ∃ k,n+k=m.crs.length∧F 1 = .ptr h.length 0 0∧F 34 = .sl m.cm 3 (m.crs.map H6)∧F 35 = .int .i64 m.crs.length∧F 36 = .int .i64 (k:Nat)∧H[h.length]? = some (.live 2 [DU m])∧(∃ x,H=h ++ x)∧KF (IA m) m.crs=KF (IA m) (m.crs.drop k)) m.crs.length ⟨0,by simp,by simp -implicitDefEqProofs only [AA,↓reduceIte,Nat.reduceEqDiff,f1],by simp -implicitDefEqProofs only [AA,↓reduceIte,Nat.reduceEqDiff],by simp -implicitDefEqProofs only [AA,↓reduceIte,Nat.reduceEqDiff],by simp -implicitDefEqProofs only [AA,↓reduceIte]; rfl,hb,hx0,rfl⟩ ?_
   clear f1 hb hx0
   rintro n F H ⟨k,hk,f1,f34,f35,f36,hb,⟨x,hx⟩,hf⟩
   simp -implicitDefEqProofs only [BB,AZ,BI,A8,AY,BC,AO,AQ,AL,BD,AX,AC,AA,A7,BQ,AB,CW,↓reduceIte,Option.getD_some,Bool.not_false,enP,f35,f36]
   refine CQ (fun hc => ?_) (fun hc => ?_)
   ·have hk':k < m.crs.length:=by simpa using hc
    have hs:=P6 (IA m) m.crs k hk'
    simp -implicitDefEqProofs only [BB,BP,AZ,BN,A8,AY,BC,AO,AQ,AL,BD,AX,AC,EZ,AA,A7,CB,FW,BO,EI,BZ,CE,BX,BR,AB,DR,List.map_cons,List.map_nil,List.append_nil,↓reduceIte,Nat.reduceEqDiff,Option.getD_some,Bool.not_false,enP,RF,Option.getD_none,f1,f34,f36,DJ hk',FD ACQ X7 KG hk',AVF,AS9 _ _ [.str ⟨#[]⟩,.sl .nil 0 [],.sl .nil 0 []] rfl,ldC (CX H (.live 3 [H6 m.crs[k]])),ldM (DL (x := .live 3 [H6 m.crs[k]]) hb)]
    refine (AK4 G hG m m.crs[k] (hm.crs _ (List.getElem_mem hk')) hfull _).use ?_
    simp -implicitDefEqProofs only [BB,AZ,BI,A8,AY,BC,AO,AQ,AL,BD,AX,AC,AA,A7,AU,BH,BF,BA,BQ,AB,EQ,↓reduceIte,Option.getD_some,Bool.not_false,enP]
    refine CQ (fun hv => ?_) (fun hv => ?_)
    ·simp -implicitDefEqProofs only [BB,AZ,BM,A8,CS,EG,LW,FM,AY,BC,AO,AQ,AL,BD,AX,AC,AA,A7,BF,BA,↓reduceIte,Nat.reduceEqDiff,Option.getD_some,Bool.not_false]
     have hv':IA m m.crs[k]≠0:=by simpa using hv
     have:KF (IA m) m.crs=IA m m.crs[k]:=by rw [hf,hs,if_neg hv']
     exact ⟨by rw [hme,this,if_pos hv'],x ++ _,by rw [hx,List.append_assoc]⟩
    ·have hv':IA m m.crs[k]=0:=by simpa using hv
     simp -implicitDefEqProofs only [AZ,BN,A8,D8,ED,AY,BC,AO,AQ,AL,BD,AX,AC,AA,A7,AU,BH,BF,BQ,AB,CZ,↓reduceIte,Nat.reduceEqDiff,Option.getD_some,Bool.not_false,enP,f36,wrap_succ (show k < 9223372036854775807 by omega)]
     exact ⟨n - 1,by omega,k+1,by omega,f1,f34,f35,rfl,DL hb,⟨x ++ _,by rw [hx,List.append_assoc]⟩,by rw [hf,hs,if_pos hv']⟩
   ·have hk' : ¬ k < m.crs.length:=by simpa using hc
    simp -implicitDefEqProofs only [DC,DZ,JM,EP,AA,↓reduceIte,Nat.reduceEqDiff]
    exact ⟨f1,hb,⟨x,hx⟩,by rw [hf,List.drop_eq_nil_of_le (by omega)]; rfl⟩
  ·rintro F H ⟨f1,hb,hx,hf⟩
   rw [hf,if_neg (fun hh=>hh rfl)] at hme
   simp -implicitDefEqProofs only [BB,AZ,A8,EN,AY,AO,AQ,AL,BD,AX,AC,AA,A7,CB,BO,BJ,CE,BX,AB,List.map_cons,List.map_nil,List.append_nil,↓reduceIte,Nat.zero_add,Option.getD_some,Bool.not_false,enP,IX,f1,lm1 _ hb]
   refine (AN6 G m.crs m.cm H (by omega)).use ?_
   simp -implicitDefEqProofs only [BI,A8,BC,AC,AA,A7,↓reduceIte]
   cases hd:OM (m.crs.map (·.name))
   ·simp -implicitDefEqProofs only [BB,AZ,BN,BM,A8,CU,DY,AY,BC,AO,AQ,AL,BD,AX,AC,AA,AU,BH,BA,↓reduceIte,Option.getD_some,Bool.not_false]
    exact ⟨by rw [hme,hd]; rfl,hx⟩
   ·simp -implicitDefEqProofs only [BB,AZ,BM,A8,CS,CU,DX,AY,BC,AO,AQ,AL,BD,AX,AC,AA,AU,BH,BA,↓reduceIte,Option.getD_some,Bool.not_false]
    exact ⟨by rw [hme,hd]; rfl,hx⟩
  ·rintro F H ⟨f2,hx⟩
   simp -implicitDefEqProofs only [CS,EG,CU,f2]
   exact ⟨trivial,hx⟩
 ·rintro F H ⟨f2,hx⟩
  simp -implicitDefEqProofs only [CS,EG,CU,f2]
  exact ⟨trivial,hx⟩
end Go.Proofs.YtocilianjfhifaaGreatDoor.Cov
/- The error of a model: the reference; no condition but the bounds on lengths. -/
set_option linter.unusedSimpArgs false
set_option maxRecDepth 8000
namespace Go.Proofs.YtocilianjfhifaaGreatDoor.Cov
open Go Go.Proofs Go.Proofs.YtocilianjfhifaaGreatDoor.Sm Go.Proofs.YtocilianjfhifaaGreatDoor.Bins Go.RowKit

theorem PZ (G:Nat→AV) (m:Mo) (hm:MoOk m) (h:Hp):PCall (En G) 50 [.agg (DU m)] h (.int .i64 (FU m)):=by
 refine ACalls.pure0 rfl ?_
 have hm1:=hm.np
 have hm2:=hm.nc
 refine CG (H:=Hint.none) (enM G) Tryz.func50 rfl (by kernel_rfl) (by kernel_rfl) (Nat.le_of_ble_eq_true (by kernel_rfl)) ?_
 show awp _ _ _ _ _ (EU _ [.tmp 2] _)
 have hw:IntKind.i64.wrap ((m.pts.length:Int)+(m.crs.length:Int))=(m.pts.length:Int)+(m.crs.length:Int):=wrap_i64 (by omega) (by omega)
 have gm:=CX h (.live 2 [DU m])
 have hx : ∃ x,h ++ [ABlk.live 2 [DU m]]=h ++ x:=⟨_,rfl⟩
 simp -implicitDefEqProofs only [BB,AZ,A8,AY,BC,AO,AQ,AL,BD,AX,AC,AA,A7,AU,BH,BA,FK,BO,BJ,BR,AB,BG,↓reduceIte,Nat.reduceEqDiff,Nat.add_zero,Option.getD_some,Bool.not_false,enP,IG,bxM]
 generalize h ++ [ABlk.live 2 [DU m]]=H at gm hx ⊢
 have lm0:EE Tryz.prog H 22 (.ptr h.length 0 0)=some (.sl m.pm 6 (m.pts.map IM)):=by rw [D6 VN gm (row:=DU m) rfl,QK]
 have lm1:EE Tryz.prog H 23 (.ptr h.length 0 1)=some (.sl m.cm 3 (m.crs.map H6)):=by rw [D6 YV gm (row:=DU m) rfl,TP]
 simp -implicitDefEqProofs only [BI,A8,AY,BC,AO,AQ,AL,BD,AX,AC,AA,A7,AU,BH,BO,BQ,BJ,DN,AB,CZ,EW,↓reduceIte,Nat.reduceEqDiff,Nat.zero_add,Option.getD_some,Bool.not_false,enP,QE,TB,IX,lm0,lm1,List.length_map,hw]
 refine CQ (fun h1 => ?_) (fun h1 => ?_)
 ·simp -implicitDefEqProofs only [BB,AZ,BM,A8,CS,CU,AY,BC,AO,AQ,AL,BD,AX,AC,AA,AU,BH,BA,↓reduceIte,Option.getD_some,Bool.not_false]
  exact ⟨by unfold FU; rw [if_pos (by simp at h1; omega)],hx⟩
 have h1' : ¬ 16 < m.pts.length+m.crs.length:=by simp at h1; omega
 have hme:FU m=if KF H7 m.pts≠0 then KF H7 m.pts else if OM (m.pts.map (·.name)) then 8 else if KF (IA m) m.crs≠0 then KF (IA m) m.crs else if OM (m.crs.map (·.name)) then 8 else 0:=by
  unfold FU; rw [if_neg h1']
 simp -implicitDefEqProofs only [BB,BP,AZ,BN,A8,AY,BC,AO,AQ,AL,BD,AX,AC,AU,BH,BA,Option.getD_some,Bool.not_false]
 refine F8 0 (fun F H'=>F 1 = .ptr h.length 0 0∧H'=H∧KF H7 m.pts=0) (fun F H'=>F 2 = .int .i64 (FU m)∧H'=H) ?_ ?_ ?_
 ·refine C9 (fun n F H' => ∃ k,n+k=m.pts.length∧F 1 = .ptr h.length 0 0∧F 3 = .int .i64 (k:Nat)∧H'=H∧KF H7 m.pts=KF H7 (m.pts.drop k)) m.pts.length ⟨0,by simp,by simp -implicitDefEqProofs only [AA,↓reduceIte,Nat.reduceEqDiff],by simp -implicitDefEqProofs only [AA,↓reduceIte]; rfl,rfl,rfl⟩ ?_
  rintro n F H' ⟨k,hk,f1,f3,rfl,hf⟩
  simp -implicitDefEqProofs only [BB,AZ,BI,A8,AY,BC,AO,AQ,AL,BD,AX,AC,AA,A7,BF,BO,BQ,BJ,DN,AB,CW,↓reduceIte,Nat.reduceEqDiff,Nat.add_zero,Option.getD_some,Bool.not_false,enP,QE,IG,f1,f3,lm0,List.length_map]
  refine CQ (fun hc => ?_) (fun hc => ?_)
  ·have hk':k < m.pts.length:=by simpa using hc
   have hs:=P6 H7 m.pts k hk'
   simp -implicitDefEqProofs only [BB,BP,AZ,BN,A8,AY,AO,AQ,AL,BD,AX,AC,AA,A7,CB,BF,BO,BJ,BZ,CE,BX,AB,List.map_cons,List.map_nil,List.append_nil,↓reduceIte,Nat.reduceEqDiff,Nat.add_zero,Option.getD_some,Bool.not_false,enP,OJ,IG,f1,f3,lm0,DJ hk',FD AGM ZM J8 hk']
   refine (AN9 G m.pts[k] (hm.pts _ (List.getElem_mem hk')) _).use ?_
   simp -implicitDefEqProofs only [BB,AZ,BI,A8,AY,BC,AO,AQ,AL,BD,AX,AC,AA,A7,AU,BH,BF,BA,BQ,AB,EQ,↓reduceIte,Option.getD_some,Bool.not_false,enP]
   refine CQ (fun hv => ?_) (fun hv => ?_)
   ·simp -implicitDefEqProofs only [BB,AZ,BM,A8,CS,EG,LW,FM,AY,BC,AO,AQ,AL,BD,AX,AC,AA,A7,BF,BA,↓reduceIte,Nat.reduceEqDiff,Option.getD_some,Bool.not_false]
    have hv':H7 m.pts[k]≠0:=by simpa using hv
    have:KF H7 m.pts=H7 m.pts[k]:=by rw [hf,hs,if_neg hv']
    exact ⟨by rw [hme,this,if_pos hv'],trivial⟩
   ·have hv':H7 m.pts[k]=0:=by simpa using hv
    simp -implicitDefEqProofs only [AZ,BN,A8,D8,ED,AY,BC,AO,AQ,AL,BD,AX,AC,AA,A7,AU,BH,BF,BA,BQ,AB,CZ,↓reduceIte,Nat.reduceEqDiff,Option.getD_some,Bool.not_false,enP,f3,wrap_succ (show k < 9223372036854775807 by omega)]
    exact ⟨n - 1,by omega,k+1,by omega,f1,rfl,trivial,by rw [hf,hs,if_pos hv']⟩
  ·have hk' : ¬ k < m.pts.length:=by simpa using hc
   simp -implicitDefEqProofs only [DC,DZ,JM,EP,AA,↓reduceIte,Nat.reduceEqDiff]
   exact ⟨f1,trivial,by rw [hf,List.drop_eq_nil_of_le (by omega)]; rfl⟩
 ·rintro F H' ⟨f1,rfl,hf⟩
  have hfull:=full_of hf
  rw [hf,if_neg (fun hh=>hh rfl)] at hme
  simp -implicitDefEqProofs only [BB,BP,AZ,A8,EN,AY,BC,AO,AQ,AL,BD,AX,AC,AU,BH,BA,↓reduceIte,Option.getD_some,Bool.not_false,f1]
  refine F8 2 (fun F H=>F 1 = .ptr h.length 0 0∧H=H'∧OM (m.pts.map (·.name))=false) (fun F H=>F 2 = .int .i64 (FU m)∧H=H') ?_ ?_ ?_
  ·generalize hN:m.pts.map (·.name)=N at hme ⊢
   have hNl:N.length=m.pts.length:=by rw [← hN]; simp
   have hNi : ∀ i (hi:i < m.pts.length),N[i]? = some m.pts[i].name:=fun i hi=>by rw [← hN,List.getElem?_map,List.getElem?_eq_getElem hi]; rfl
   refine C9 (fun n F H => ∃ i,n+i=m.pts.length∧F 1 = .ptr h.length 0 0∧F 5 = .int .i64 (i:Nat)∧H=H'∧OM N=ADI (N.take i) (N.drop i)) m.pts.length ⟨0,by simp,by simp -implicitDefEqProofs only [AA,↓reduceIte,Nat.reduceEqDiff,f1],by simp -implicitDefEqProofs only [AA,↓reduceIte]; rfl,rfl,rfl⟩ ?_
   clear f1
   rintro n F H' ⟨i,hi,f1,f5,rfl,hd⟩
   simp -implicitDefEqProofs only [BB,AZ,BI,A8,AY,BC,AO,AQ,AL,BD,AX,AC,AA,A7,BF,BO,BQ,BJ,DN,AB,CW,↓reduceIte,Nat.reduceEqDiff,Nat.add_zero,Option.getD_some,Bool.not_false,enP,QE,IG,f1,f5,lm0,List.length_map]
   refine CQ (fun hc => ?_) (fun hc => ?_)
   ·have hi':i < m.pts.length:=by simpa using hc
    have hdrop:=P7 N i (by omega)
    rw [GZ (hNi i hi')] at hdrop
    simp -implicitDefEqProofs only [BB,BP,AZ,BN,A8,AY,BC,AO,AQ,AL,BD,AX,AC,AU,BH,BA,Option.getD_some,Bool.not_false,f5]
    refine F8 4 (fun F' H=>F' 1 = .ptr h.length 0 0∧F' 5 = .int .i64 (i:Nat)∧H=H'∧JS (N.take i) m.pts[i].name=false) (fun F' H=>F' 2 = .int .i64 8∧H=H'∧OM N=true) ?_ ?_ ?_
    ·refine C9 (fun n F' H => ∃ k,n+k=i∧F' 1 = .ptr h.length 0 0∧F' 5 = .int .i64 (i:Nat)∧F' 6 = .int .i64 (k:Nat)∧H=H'∧JS (N.take i) m.pts[i].name=JS ((N.take i).drop k) m.pts[i].name) i ⟨0,by simp,by simp -implicitDefEqProofs only [AA,↓reduceIte,Nat.reduceEqDiff,f1],by simp -implicitDefEqProofs only [AA,↓reduceIte,Nat.reduceEqDiff,f5],by simp -implicitDefEqProofs only [AA,↓reduceIte]; rfl,rfl,rfl⟩ ?_
     clear f1 f5
     rintro n' F H' ⟨k,hk,f1,f5,f6,rfl,hin⟩
     simp -implicitDefEqProofs only [BB,AZ,BI,A8,AY,BC,AO,AQ,AL,BD,AX,AC,AA,A7,BF,BQ,AB,CW,↓reduceIte,Nat.reduceEqDiff,Option.getD_some,Bool.not_false,enP,f5,f6]
     refine CQ (fun hc => ?_) (fun hc => ?_)
     ·have hk':k < i:=by simpa using hc
      have hk2:k < m.pts.length:=by omega
      have hs:=LV (fun u=>m.pts[i].name.toList == u.toList) (N.take i) k (by rw [List.length_take]; omega)
      have hx:(N.take i)[k]'(by rw [List.length_take]; omega)=m.pts[k].name:=by
       rw [List.getElem_take]; exact GZ (hNi k hk2)
      rw [hx] at hs
      simp -implicitDefEqProofs only [BB,BP,BN,A8]
      refine ER (by kernel_rfl) ?_
      simp -implicitDefEqProofs only [F7,D9,DT,E8,EC,FH,FC,IE,D5,D7,BI,A8,AO,AA,A7,BO,BQ,BJ,BZ,AB,NL,↓reduceIte,Nat.reduceEqDiff,Nat.reduceAdd,Nat.add_zero,Option.getD_some,enP,OJ,IG,AF3,f1,f5,f6,lm0,DJ hi',DJ hk2,CV ag9 hi',CV ag9 hk2,AM7]
      refine CQ (fun hb => ?_) (fun hb => ?_)
      ·simp -implicitDefEqProofs only [BB,AZ,BM,A8,CS,EG,LW,FM,AY,BC,AO,AQ,AL,BD,AX,AC,AA,AU,BH,BA,↓reduceIte,Option.getD_some,Bool.not_false]
       have:JS (N.take i) m.pts[i].name=true:=by
        rw [hin]; unfold JS; rw [hs,BEq.comm,hb]; rfl
       exact ⟨trivial,trivial,by rw [hd,hdrop,this]; rfl⟩
      ·simp -implicitDefEqProofs only [AZ,BN,A8,D8,ED,AY,BC,AO,AQ,AL,BD,AX,AC,AA,A7,AU,BH,BF,BA,BQ,AB,CZ,↓reduceIte,Nat.reduceEqDiff,Option.getD_some,Bool.not_false,enP,f6,wrap_succ (show k < 9223372036854775807 by omega)]
       refine ⟨n' - 1,by omega,k+1,by omega,f1,f5,rfl,trivial,?_⟩
       rw [hin]; unfold JS; rw [hs,BEq.comm,hb]; rfl
     ·have hk' : ¬ k < i:=by simpa using hc
      simp -implicitDefEqProofs only [DC,DZ,JM,EP,AA,↓reduceIte,Nat.reduceEqDiff]
      refine ⟨f1,f5,trivial,?_⟩
      rw [hin,List.drop_eq_nil_of_le (by rw [List.length_take]; omega)]; rfl
    ·rintro F' H' ⟨g1,g5,rfl,hn⟩
     simp -implicitDefEqProofs only [AZ,A8,D8,EN,ED,AY,BC,AO,AQ,AL,BD,AX,AC,AA,A7,AU,BH,BF,BA,BQ,AB,CZ,↓reduceIte,Nat.reduceEqDiff,Option.getD_some,Bool.not_false,enP,g5,wrap_succ (show i < 9223372036854775807 by omega)]
     refine ⟨n - 1,by omega,i+1,by omega,g1,rfl,trivial,?_⟩
     rw [hd,hdrop,hn]; rfl
    ·rintro F' H' ⟨g2,rfl,hdd⟩
     simp -implicitDefEqProofs only [CS,EG,LW,FM,g2]
     exact ⟨by rw [hme,hdd]; rfl,trivial⟩
   ·have hi' : ¬ i < m.pts.length:=by simpa using hc
    simp -implicitDefEqProofs only [DC,DZ,JM,EP,AA,↓reduceIte,Nat.reduceEqDiff]
    exact ⟨f1,trivial,by rw [hd,List.drop_eq_nil_of_le (by omega)]; rfl⟩
  ·clear f1
   rintro F H ⟨f1,rfl,hd⟩
   rw [hd] at hme
   simp only [Bool.false_eq_true,if_false] at hme
   simp -implicitDefEqProofs only [BB,BP,AZ,A8,EN,AY,BC,AO,AQ,AL,BD,AX,AC,AU,BH,BA,↓reduceIte,Option.getD_some,Bool.not_false]
   refine F8 6 (fun F H'=>F 1 = .ptr h.length 0 0∧H'=H∧KF (IA m) m.crs=0) (fun F H'=>F 2 = .int .i64 (FU m)∧H'=H) ?_ ?_ ?_
   ·refine C9 (fun n F H' => ∃ k,n+k=m.crs.length∧F 1 = .ptr h.length 0 0∧F 7 = .int .i64 (k:Nat)∧H'=H∧KF (IA m) m.crs=KF (IA m) (m.crs.drop k)) m.crs.length ⟨0,by simp,by simp -implicitDefEqProofs only [AA,↓reduceIte,Nat.reduceEqDiff,f1],by simp -implicitDefEqProofs only [AA,↓reduceIte]; rfl,rfl,rfl⟩ ?_
    clear f1
    rintro n F H' ⟨k,hk,f1,f7,rfl,hf⟩
    simp -implicitDefEqProofs only [BB,AZ,BI,A8,AY,BC,AO,AQ,AL,BD,AX,AC,AA,A7,BF,BO,BQ,BJ,DN,AB,CW,↓reduceIte,Nat.reduceEqDiff,Nat.zero_add,Option.getD_some,Bool.not_false,enP,TB,IX,f1,f7,lm1,List.length_map]
    refine CQ (fun hc => ?_) (fun hc => ?_)
    ·have hk':k < m.crs.length:=by simpa using hc
     have hs:=P6 (IA m) m.crs k hk'
     simp -implicitDefEqProofs only [BB,BP,BN,A8]
     refine ER (by kernel_rfl) ?_
     simp -implicitDefEqProofs only [F7,D9,DT,E8,EC,FH,IQ,FC,D5,D7,GM,F6,BB,AZ,A8,AY,AO,AQ,AL,BD,AX,AC,AA,A7,AU,CB,BH,BF,BO,BQ,BJ,BZ,AB,List.map_cons,List.map_nil,List.append_nil,↓reduceIte,Nat.reduceEqDiff,Nat.reduceAdd,Nat.zero_add,Option.getD_some,Bool.not_false,enP,RF,IX,f1,f7,lm1,ldM gm,DJ hk',FD ACQ X7 KG hk']
     refine ⟨_,AO5 G m m.crs[k] (hm.crs _ (List.getElem_mem hk')) hfull _,?_⟩
     try simp -implicitDefEqProofs only [BI,A8,BC,AC,AA,A7,AB,EQ,↓reduceIte]
     refine CQ (fun hv => ?_) (fun hv => ?_)
     ·simp -implicitDefEqProofs only [BB,AZ,BM,A8,CS,EG,LW,FM,AY,BC,AO,AQ,AL,BD,AX,AC,AA,A7,BF,BA,↓reduceIte,Nat.reduceEqDiff,Option.getD_some,Bool.not_false]
      have hv':IA m m.crs[k]≠0:=by simpa using hv
      have:KF (IA m) m.crs=IA m m.crs[k]:=by rw [hf,hs,if_neg hv']
      exact ⟨by rw [hme,this,if_pos hv'],trivial⟩
     ·have hv':IA m m.crs[k]=0:=by simpa using hv
      simp -implicitDefEqProofs only [AZ,BN,A8,D8,ED,AY,BC,AO,AQ,AL,BD,AX,AC,AA,A7,AU,BH,BF,BA,BQ,AB,CZ,↓reduceIte,Nat.reduceEqDiff,Option.getD_some,Bool.not_false,enP,f7,wrap_succ (show k < 9223372036854775807 by omega)]
      exact ⟨n - 1,by omega,k+1,by omega,f1,rfl,trivial,by rw [hf,hs,if_pos hv']⟩
    ·have hk' : ¬ k < m.crs.length:=by simpa using hc
     simp -implicitDefEqProofs only [DC,DZ,JM,EP,AA,↓reduceIte,Nat.reduceEqDiff]
     exact ⟨f1,trivial,by rw [hf,List.drop_eq_nil_of_le (by omega)]; rfl⟩
   ·rintro F H' ⟨f1,rfl,hf⟩
    rw [hf,if_neg (fun hh=>hh rfl)] at hme
    simp -implicitDefEqProofs only [BB,BP,AZ,A8,EN,AY,BC,AO,AQ,AL,BD,AX,AC,AU,BH,BA,↓reduceIte,Option.getD_some,Bool.not_false]
    generalize hN:m.crs.map (·.name)=N at hme
    have hNl:N.length=m.crs.length:=by rw [← hN]; simp
    have hNi : ∀ i (hi:i < m.crs.length),N[i]? = some m.crs[i].name:=fun i hi=>by rw [← hN,List.getElem?_map,List.getElem?_eq_getElem hi]; rfl
    refine C9 (fun n F H => ∃ i,n+i=m.crs.length∧F 1 = .ptr h.length 0 0∧F 9 = .int .i64 (i:Nat)∧H=H'∧OM N=ADI (N.take i) (N.drop i)) m.crs.length ⟨0,by simp,by simp -implicitDefEqProofs only [AA,↓reduceIte,Nat.reduceEqDiff,f1],by simp -implicitDefEqProofs only [AA,↓reduceIte]; rfl,rfl,rfl⟩ ?_
    clear f1
    rintro n F H' ⟨i,hi,f1,f9,rfl,hd⟩
    simp -implicitDefEqProofs only [BB,AZ,BI,A8,AY,BC,AO,AQ,AL,BD,AX,AC,AA,A7,BF,BO,BQ,BJ,DN,AB,CW,↓reduceIte,Nat.reduceEqDiff,Nat.zero_add,Option.getD_some,Bool.not_false,enP,TB,IX,f1,f9,lm1,List.length_map]
    refine CQ (fun hc => ?_) (fun hc => ?_)
    ·have hi':i < m.crs.length:=by simpa using hc
     have hdrop:=P7 N i (by omega)
     rw [GZ (hNi i hi')] at hdrop
     simp -implicitDefEqProofs only [BB,BP,AZ,BN,A8,AY,BC,AO,AQ,AL,BD,AX,AC,AU,BH,BA,Option.getD_some,Bool.not_false,f9]
     refine F8 10 (fun F' H=>F' 1 = .ptr h.length 0 0∧F' 9 = .int .i64 (i:Nat)∧H=H'∧JS (N.take i) m.crs[i].name=false) (fun F' H=>F' 2 = .int .i64 8∧H=H'∧OM N=true) ?_ ?_ ?_
     ·refine C9 (fun n F' H => ∃ k,n+k=i∧F' 1 = .ptr h.length 0 0∧F' 9 = .int .i64 (i:Nat)∧F' 10 = .int .i64 (k:Nat)∧H=H'∧JS (N.take i) m.crs[i].name=JS ((N.take i).drop k) m.crs[i].name) i ⟨0,by simp,by simp -implicitDefEqProofs only [AA,↓reduceIte,Nat.reduceEqDiff,f1],by simp -implicitDefEqProofs only [AA,↓reduceIte,Nat.reduceEqDiff,f9],by simp -implicitDefEqProofs only [AA,↓reduceIte]; rfl,rfl,rfl⟩ ?_
      clear f1 f9
      rintro n' F H' ⟨k,hk,f1,f9,f10,rfl,hin⟩
      simp -implicitDefEqProofs only [BB,AZ,BI,A8,AY,BC,AO,AQ,AL,BD,AX,AC,AA,A7,BF,BQ,AB,CW,↓reduceIte,Nat.reduceEqDiff,Option.getD_some,Bool.not_false,enP,f9,f10]
      refine CQ (fun hc => ?_) (fun hc => ?_)
      ·have hk':k < i:=by simpa using hc
       have hk2:k < m.crs.length:=by omega
       have hs:=LV (fun u=>m.crs[i].name.toList == u.toList) (N.take i) k (by rw [List.length_take]; omega)
       have hx:(N.take i)[k]'(by rw [List.length_take]; omega)=m.crs[k].name:=by
        rw [List.getElem_take]; exact GZ (hNi k hk2)
       rw [hx] at hs
       simp -implicitDefEqProofs only [BB,BP,BN,A8]
       refine ER (by kernel_rfl) ?_
       simp -implicitDefEqProofs only [F7,D9,DT,E8,EC,FH,FC,IE,D5,D7,BI,A8,AO,AA,A7,BO,BQ,BJ,BZ,AB,NL,↓reduceIte,Nat.reduceEqDiff,Nat.reduceAdd,Nat.add_zero,Nat.zero_add,Option.getD_some,enP,RF,IX,AF1,f1,f9,f10,lm1,DJ hi',DJ hk2,CV ag9 hi',CV ag9 hk2,AM8]
       refine CQ (fun hb => ?_) (fun hb => ?_)
       ·simp -implicitDefEqProofs only [BB,AZ,BM,A8,CS,EG,LW,FM,AY,BC,AO,AQ,AL,BD,AX,AC,AA,AU,BH,BA,↓reduceIte,Option.getD_some,Bool.not_false]
        have:JS (N.take i) m.crs[i].name=true:=by
         rw [hin]; unfold JS; rw [hs,BEq.comm,hb]; rfl
        exact ⟨trivial,trivial,by rw [hd,hdrop,this]; rfl⟩
       ·simp -implicitDefEqProofs only [AZ,BN,A8,D8,ED,AY,BC,AO,AQ,AL,BD,AX,AC,AA,A7,AU,BH,BF,BA,BQ,AB,CZ,↓reduceIte,Nat.reduceEqDiff,Option.getD_some,Bool.not_false,enP,f10,wrap_succ (show k < 9223372036854775807 by omega)]
        refine ⟨n' - 1,by omega,k+1,by omega,f1,f9,rfl,trivial,?_⟩
        rw [hin]; unfold JS; rw [hs,BEq.comm,hb]; rfl
      ·have hk' : ¬ k < i:=by simpa using hc
       simp -implicitDefEqProofs only [DC,DZ,JM,EP,AA,↓reduceIte,Nat.reduceEqDiff]
       refine ⟨f1,f9,trivial,?_⟩
       rw [hin,List.drop_eq_nil_of_le (by rw [List.length_take]; omega)]; rfl
     ·rintro F' H' ⟨g1,g9,rfl,hn⟩
      simp -implicitDefEqProofs only [AZ,A8,D8,EN,ED,AY,BC,AO,AQ,AL,BD,AX,AC,AA,A7,AU,BH,BF,BA,BQ,AB,CZ,↓reduceIte,Nat.reduceEqDiff,Option.getD_some,Bool.not_false,enP,g9,wrap_succ (show i < 9223372036854775807 by omega)]
      refine ⟨n - 1,by omega,i+1,by omega,g1,rfl,trivial,?_⟩
      rw [hd,hdrop,hn]; rfl
     ·rintro F' H' ⟨g2,rfl,hdd⟩
      simp -implicitDefEqProofs only [CS,EG,FM,CU,g2]
      exact ⟨by rw [hme,hdd]; rfl,hx⟩
    ·have hi' : ¬ i < m.crs.length:=by simpa using hc
     simp -implicitDefEqProofs only [BB,AZ,BM,DC,A8,DZ,EN,EP,CU,AY,BC,AO,AQ,AL,BD,AX,AC,AA,AU,BH,BA,↓reduceIte,Option.getD_some,Bool.not_false]
     exact ⟨by rw [hme,hd,List.drop_eq_nil_of_le (by omega)]; rfl,hx⟩
   ·rintro F H' ⟨f2,rfl⟩
    simp -implicitDefEqProofs only [CS,EG,CU,f2]
    exact ⟨trivial,hx⟩
  ·rintro F H ⟨f2,rfl⟩
   simp -implicitDefEqProofs only [CS,EG,CU,f2]
   exact ⟨trivial,hx⟩
 ·rintro F H' ⟨f2,rfl⟩
  simp -implicitDefEqProofs only [CS,EG,CU,f2]
  exact ⟨trivial,hx⟩
end Go.Proofs.YtocilianjfhifaaGreatDoor.Cov
/- Equal lists, counts, combinations that count, on both sides; no condition but the bounds on lengths. -/
set_option linter.unusedSimpArgs false
set_option maxRecDepth 8000
namespace Go.Proofs.YtocilianjfhifaaGreatDoor.Cov
open Go Go.Proofs Go.Proofs.YtocilianjfhifaaGreatDoor.Sm Go.Proofs.YtocilianjfhifaaGreatDoor.Bins Go.RowKit

def eqL (a b:List Int):Bool:=decide (a=b)
theorem AB5 {a b:List Int} {k:Nat} (ha:k < a.length) (hb:k < b.length):eqL (a.drop k) (b.drop k)=(decide (a[k]=b[k]) && eqL (a.drop (k+1)) (b.drop (k+1))):=by
 rw [List.drop_eq_getElem_cons ha,List.drop_eq_getElem_cons hb]
 unfold eqL
 rw [decide_eq_decide.2 (Iff.of_eq (List.cons.injEq _ _ _ _)),Bool.decide_and]
theorem WI (G:Nat→AV) (a b:List Int) (s t:SM) (h:Hp) (hl:b.length≤1099511627776):PCall (En G) 188 [.sl s 1 (a.map encI),.sl t 1 (b.map encI)] h (.bool (eqL a b)):=by
 refine CG (H:=Hint.none) (enM G) Tryz.func188 rfl (by kernel_rfl) (by kernel_rfl) (Nat.le_of_ble_eq_true (by kernel_rfl)) ?_
 show awp _ _ _ _ _ (EU _ [.tmp 4] _)
 simp -implicitDefEqProofs only [BB,AZ,BI,A8,AY,BC,AO,AQ,AL,BD,AX,AC,AA,A7,AU,BL,BF,BA,BQ,DN,AB,EQ,BG,BV,↓reduceIte,Nat.reduceEqDiff,Option.getD_some,Bool.not_false,enP,IL,List.length_map]
 refine CQ (fun h1 => ?_) (fun h1 => ?_)
 ·simp -implicitDefEqProofs only [BB,AZ,BM,A8,CS,CU,AY,BC,AO,AQ,AL,BD,AX,AC,AA,AU,BL,BA,↓reduceIte,Option.getD_some,Bool.not_false]
  have:eqL a b=false:=by
   unfold eqL; rw [decide_eq_false_iff_not]; intro e; subst e; simp at h1
  exact ⟨by rw [this],trivial⟩
 have hab:a.length=b.length:=by simp at h1; omega
 simp -implicitDefEqProofs only [BB,BP,AZ,BN,A8,AY,BC,AO,AQ,AL,BD,AX,AC,AA,A7,AU,BH,BF,DN,AB,BG,↓reduceIte,Nat.reduceEqDiff,Option.getD_some,Bool.not_false,enP,IL,List.length_map]
 refine C9 (fun n F H => ∃ k,n+k=a.length∧F 0 = .sl s 1 (a.map encI)∧F 1 = .sl t 1 (b.map encI)∧F 12 = .int .i64 a.length∧F 13 = .int .i64 (k:Nat)∧H=h∧eqL a b=eqL (a.drop k) (b.drop k)) a.length ⟨0,by simp,by simp -implicitDefEqProofs only [AA,BG,↓reduceIte,Nat.reduceEqDiff],by simp -implicitDefEqProofs only [AA,BG,BV,↓reduceIte,Nat.reduceEqDiff],by simp -implicitDefEqProofs only [AA,↓reduceIte,Nat.reduceEqDiff],by simp -implicitDefEqProofs only [AA,↓reduceIte]; rfl,rfl,rfl⟩ ?_
 rintro n F H ⟨k,hk,f0,f1,f12,f13,rfl,hi⟩
 simp -implicitDefEqProofs only [BB,AZ,BI,A8,AY,BC,AO,AQ,AL,BD,AX,AC,AA,A7,BQ,AB,CW,↓reduceIte,Option.getD_some,Bool.not_false,enP,f12,f13]
 refine CQ (fun hc => ?_) (fun hc => ?_)
 ·have hk':k < a.length:=by simpa using hc
  have hkb:k < b.length:=by omega
  rw [AB5 hk' hkb] at hi
  simp -implicitDefEqProofs only [BB,BP,AZ,BN,A8,AY,BC,AO,AQ,AL,BD,AX,AC,AA,A7,BF,BA,↓reduceIte,Nat.reduceEqDiff,Option.getD_some,Bool.not_false,f13]
  refine ER (by kernel_rfl) ?_
  simp -implicitDefEqProofs only [F7,D9,DT,E8,EC,FH,FC,IE,D7,BI,A8,AO,AA,A7,BO,BQ,BZ,AB,EQ,↓reduceIte,Nat.reduceEqDiff,Nat.reduceAdd,Option.getD_some,enP,JQ,f0,f1,f13,DJ hk',DJ hkb,CV ag3 hk',CV ag3 hkb,encI0]
  refine CQ (fun hd => ?_) (fun hd => ?_)
  ·simp -implicitDefEqProofs only [BB,AZ,BM,A8,CS,EG,FM,CU,AY,BC,AO,AQ,AL,BD,AX,AC,AA,AU,BL,BA,↓reduceIte,Option.getD_some,Bool.not_false]
   have:decide (a[k]=b[k])=false:=by simpa using hd
   exact ⟨by rw [hi,this]; rfl,trivial⟩
  ·simp -implicitDefEqProofs only [AZ,BN,A8,D8,ED,AY,BC,AO,AQ,AL,BD,AX,AC,AA,A7,AU,BH,BF,BQ,AB,CZ,↓reduceIte,Nat.reduceEqDiff,Option.getD_some,Bool.not_false,enP,f13,wrap_succ (show k < 9223372036854775807 by omega)]
   have:decide (a[k]=b[k])=true:=by simpa using hd
   exact ⟨n - 1,by omega,k+1,by omega,f0,f1,f12,rfl,trivial,by rw [hi,this]; rfl⟩
 ·have hk' : ¬ k < a.length:=by simpa using hc
  simp -implicitDefEqProofs only [BB,AZ,BM,DC,A8,DZ,EN,EP,CU,AY,BC,AO,AQ,AL,BD,AX,AC,AA,AU,BL,BA,↓reduceIte,Option.getD_some,Bool.not_false]
  exact ⟨by rw [hi,List.drop_eq_nil_of_le (by omega),List.drop_eq_nil_of_le (by omega)]; rfl,trivial⟩


theorem AJ5 (G:Nat→AV) (a b:List Int) (s t:SM) (h:Hp) (hl:b.length≤1099511627776):PCall (En G) 148 [.sl s 1 (a.map encI),.sl t 1 (b.map encI)] h (.bool (eqL a b)):=by
 refine CG (H:=Hint.none) (enM G) Tryz.func148 rfl (by kernel_rfl) (by kernel_rfl) (Nat.le_of_ble_eq_true (by kernel_rfl)) ?_
 show awp _ _ _ _ _ (EU _ [.tmp 4] _)
 simp -implicitDefEqProofs only [BB,AZ,BI,A8,AY,BC,AO,AQ,AL,BD,AX,AC,AA,A7,AU,BL,BF,BA,BQ,DN,AB,EQ,BG,BV,↓reduceIte,Nat.reduceEqDiff,Option.getD_some,Bool.not_false,enP,IL,List.length_map]
 refine CQ (fun h1 => ?_) (fun h1 => ?_)
 ·simp -implicitDefEqProofs only [BB,AZ,BM,A8,CS,CU,AY,BC,AO,AQ,AL,BD,AX,AC,AA,AU,BL,BA,↓reduceIte,Option.getD_some,Bool.not_false]
  have:eqL a b=false:=by
   unfold eqL; rw [decide_eq_false_iff_not]; intro e; subst e; simp at h1
  exact ⟨by rw [this],trivial⟩
 have hab:a.length=b.length:=by simp at h1; omega
 simp -implicitDefEqProofs only [BB,BP,AZ,BN,A8,AY,BC,AO,AQ,AL,BD,AX,AC,AU,BH,BA,Option.getD_some,Bool.not_false]
 refine C9 (fun n F H => ∃ k,n+k=a.length∧F 0 = .sl s 1 (a.map encI)∧F 1 = .sl t 1 (b.map encI)∧F 5 = .int .i64 (k:Nat)∧H=h∧eqL a b=eqL (a.drop k) (b.drop k)) a.length ⟨0,by simp,by simp -implicitDefEqProofs only [AA,BG,↓reduceIte,Nat.reduceEqDiff],by simp -implicitDefEqProofs only [AA,BG,BV,↓reduceIte,Nat.reduceEqDiff],by simp -implicitDefEqProofs only [AA,↓reduceIte]; rfl,rfl,rfl⟩ ?_
 rintro n F H ⟨k,hk,f0,f1,f5,rfl,hi⟩
 simp -implicitDefEqProofs only [BB,AZ,BI,A8,AY,BC,AO,AQ,AL,BD,AX,AC,AA,A7,BF,BQ,DN,AB,CW,↓reduceIte,Nat.reduceEqDiff,Option.getD_some,Bool.not_false,enP,IL,f0,f5,List.length_map]
 refine CQ (fun hc => ?_) (fun hc => ?_)
 ·have hk':k < a.length:=by simpa using hc
  have hkb:k < b.length:=by omega
  rw [AB5 hk' hkb] at hi
  simp -implicitDefEqProofs only [BB,BP,BN,A8]
  refine ER (by kernel_rfl) ?_
  simp -implicitDefEqProofs only [F7,D9,DT,E8,EC,FH,FC,IE,D7,BI,A8,AO,AA,A7,BO,BQ,BZ,AB,EQ,↓reduceIte,Nat.reduceEqDiff,Nat.reduceAdd,Option.getD_some,enP,JQ,f0,f1,f5,DJ hk',DJ hkb,CV ag3 hk',CV ag3 hkb,encI0]
  refine CQ (fun hd => ?_) (fun hd => ?_)
  ·simp -implicitDefEqProofs only [BB,AZ,BM,A8,CS,EG,FM,CU,AY,BC,AO,AQ,AL,BD,AX,AC,AA,AU,BL,BA,↓reduceIte,Option.getD_some,Bool.not_false]
   have:decide (a[k]=b[k])=false:=by simpa using hd
   exact ⟨by rw [hi,this]; rfl,trivial⟩
  ·simp -implicitDefEqProofs only [AZ,BN,A8,D8,ED,AY,BC,AO,AQ,AL,BD,AX,AC,AA,A7,AU,BH,BF,BA,BQ,AB,CZ,↓reduceIte,Nat.reduceEqDiff,Option.getD_some,Bool.not_false,enP,f5,wrap_succ (show k < 9223372036854775807 by omega)]
   have:decide (a[k]=b[k])=true:=by simpa using hd
   exact ⟨n - 1,by omega,k+1,by omega,f0,f1,rfl,trivial,by rw [hi,this]; rfl⟩
 ·have hk' : ¬ k < a.length:=by simpa using hc
  simp -implicitDefEqProofs only [BB,AZ,BM,DC,A8,DZ,EN,EP,CU,AY,BC,AO,AQ,AL,BD,AX,AC,AA,AU,BL,BA,↓reduceIte,Option.getD_some,Bool.not_false]
  exact ⟨by rw [hi,List.drop_eq_nil_of_le (by omega),List.drop_eq_nil_of_le (by omega)]; rfl,trivial⟩


theorem AJ4 (G:Nat→AV) (a b:List Int) (s t:SM) (h:Hp) (hl:b.length≤1099511627776):PCall (En G) 192 [.sl s 1 (a.map encI),.sl t 1 (b.map encI)] h (.bool (eqL a b)):=by
 refine CG (H:=Hint.none) (enM G) Tryz.func192 rfl (by kernel_rfl) (by kernel_rfl) (Nat.le_of_ble_eq_true (by kernel_rfl)) ?_
 show awp _ _ _ _ _ (EU _ [.tmp 4] _)
 simp -implicitDefEqProofs only [BB,AZ,BI,A8,AY,BC,AO,AQ,AL,BD,AX,AC,AA,A7,AU,BL,BF,BA,BQ,DN,AB,EQ,BG,BV,↓reduceIte,Nat.reduceEqDiff,Option.getD_some,Bool.not_false,enP,IL,List.length_map]
 refine CQ (fun h1 => ?_) (fun h1 => ?_)
 ·simp -implicitDefEqProofs only [BB,AZ,BM,A8,CS,CU,AY,BC,AO,AQ,AL,BD,AX,AC,AA,AU,BL,BA,↓reduceIte,Option.getD_some,Bool.not_false]
  have:eqL a b=false:=by
   unfold eqL; rw [decide_eq_false_iff_not]; intro e; subst e; simp at h1
  exact ⟨by rw [this],trivial⟩
 have hab:a.length=b.length:=by simp at h1; omega
 simp -implicitDefEqProofs only [BB,BP,AZ,BN,A8,AY,BC,AO,AQ,AL,BD,AX,AC,AU,BH,BA,Option.getD_some,Bool.not_false]
 refine C9 (fun n F H => ∃ k,n+k=a.length∧F 0 = .sl s 1 (a.map encI)∧F 1 = .sl t 1 (b.map encI)∧F 5 = .int .i64 (k:Nat)∧H=h∧eqL a b=eqL (a.drop k) (b.drop k)) a.length ⟨0,by simp,by simp -implicitDefEqProofs only [AA,BG,↓reduceIte,Nat.reduceEqDiff],by simp -implicitDefEqProofs only [AA,BG,BV,↓reduceIte,Nat.reduceEqDiff],by simp -implicitDefEqProofs only [AA,↓reduceIte]; rfl,rfl,rfl⟩ ?_
 rintro n F H ⟨k,hk,f0,f1,f5,rfl,hi⟩
 simp -implicitDefEqProofs only [BB,AZ,BI,A8,AY,BC,AO,AQ,AL,BD,AX,AC,AA,A7,BF,BQ,DN,AB,CW,↓reduceIte,Nat.reduceEqDiff,Option.getD_some,Bool.not_false,enP,IL,f0,f5,List.length_map]
 refine CQ (fun hc => ?_) (fun hc => ?_)
 ·have hk':k < a.length:=by simpa using hc
  have hkb:k < b.length:=by omega
  rw [AB5 hk' hkb] at hi
  simp -implicitDefEqProofs only [BB,BP,BN,A8]
  refine ER (by kernel_rfl) ?_
  simp -implicitDefEqProofs only [F7,D9,DT,E8,EC,FH,FC,IE,D7,BI,A8,AO,AA,A7,BO,BQ,BZ,AB,EQ,↓reduceIte,Nat.reduceEqDiff,Nat.reduceAdd,Option.getD_some,enP,JQ,f0,f1,f5,DJ hk',DJ hkb,CV ag3 hk',CV ag3 hkb,encI0]
  refine CQ (fun hd => ?_) (fun hd => ?_)
  ·simp -implicitDefEqProofs only [BB,AZ,BM,A8,CS,EG,FM,CU,AY,BC,AO,AQ,AL,BD,AX,AC,AA,AU,BL,BA,↓reduceIte,Option.getD_some,Bool.not_false]
   have:decide (a[k]=b[k])=false:=by simpa using hd
   exact ⟨by rw [hi,this]; rfl,trivial⟩
  ·simp -implicitDefEqProofs only [AZ,BN,A8,D8,ED,AY,BC,AO,AQ,AL,BD,AX,AC,AA,A7,AU,BH,BF,BA,BQ,AB,CZ,↓reduceIte,Nat.reduceEqDiff,Option.getD_some,Bool.not_false,enP,f5,wrap_succ (show k < 9223372036854775807 by omega)]
   have:decide (a[k]=b[k])=true:=by simpa using hd
   exact ⟨n - 1,by omega,k+1,by omega,f0,f1,rfl,trivial,by rw [hi,this]; rfl⟩
 ·have hk' : ¬ k < a.length:=by simpa using hc
  simp -implicitDefEqProofs only [BB,AZ,BM,DC,A8,DZ,EN,EP,CU,AY,BC,AO,AQ,AL,BD,AX,AC,AA,AU,BL,BA,↓reduceIte,Option.getD_some,Bool.not_false]
  exact ⟨by rw [hi,List.drop_eq_nil_of_le (by omega),List.drop_eq_nil_of_le (by omega)]; rfl,trivial⟩


def IB (n:Int):Bool:=decide (0≤n) && decide (n≤1099511627776)
def countB (n:Int) (may:Bool):Bool:=IB n && (may || n == 0)
theorem SS (G:Nat→AV) (n:Int) (h:Hp):PCall (En G) 88 [.int .i64 n] h (.bool (IB n)):=by
 refine CG (H:=Hint.none) (enM G) Tryz.func88 rfl (by kernel_rfl) (by kernel_rfl) (Nat.le_of_ble_eq_true (by kernel_rfl)) ?_
 show awp _ _ _ _ _ (EU _ [.tmp 2] _)
 simp -implicitDefEqProofs only [BB,AZ,A8,AY,BC,BK,BU,CO,AO,AQ,AL,BD,AX,AC,AA,A7,AU,BH,BL,BF,BA,BQ,AB,G7,BG,↓reduceIte,Nat.reduceEqDiff,Option.getD_some,Bool.not_false,enP]
 cases ha:decide (n≥0)
 all_goals
  simp -implicitDefEqProofs only [BM,A8,CU,AY,BC,BK,BU,CO,GN,JH,AO,AQ,AL,BD,AX,AC,AA,EY,A7,AU,BH,BL,BF,BA,CP,DW,DV,BQ,AB,KZ,BG,↓reduceIte,Nat.reduceEqDiff,Option.getD_some,Bool.not_false,enP,ha]
  exact ⟨by unfold IB; rw [show decide (0≤n)=decide (n≥0) from rfl,ha]; rfl,trivial⟩
theorem TI (G:Nat→AV) (n:Int) (may:Bool) (h:Hp):PCall (En G) 126 [.int .i64 n,.bool may] h (.bool (countB n may)):=by
 refine CG (H:=Hint.none) (enM G) Tryz.func126 rfl (by kernel_rfl) (by kernel_rfl) (Nat.le_of_ble_eq_true (by kernel_rfl)) ?_
 show awp _ _ _ _ _ (EU _ [.tmp 4] _)
 simp -implicitDefEqProofs only [BB,AZ,A8,AY,BC,BK,BU,CO,AO,AQ,AL,BD,AX,AC,AA,A7,AU,BH,BL,BF,BA,BQ,AB,G7,BG,↓reduceIte,Nat.reduceEqDiff,Option.getD_some,Bool.not_false,enP]
 cases ha:decide (n≥0) <;> cases hb:decide (n≤1099511627776) <;> cases may
 all_goals
  simp -implicitDefEqProofs only [BM,A8,CU,AY,BC,BK,BU,CO,GN,EO,JH,F5,QP,AO,AQ,AL,BD,AX,AC,AA,EY,A7,AU,BH,BL,BF,BA,CP,DW,DV,BQ,AB,EJ,KZ,BG,BV,↓reduceIte,Nat.reduceEqDiff,Option.getD_some,Bool.not_false,enP,ha,hb]
  exact ⟨by unfold countB IB; rw [show decide (0≤n)=decide (n≥0) from rfl,ha,hb]; rfl,trivial⟩
theorem ZC (G:Nat→AV) (b:Bin) (h:Hp):PCall (En G) 179 [.agg (J9 b)] h (.bool (b.kind == 0)):=by
 refine ACalls.pure0 rfl ?_
 refine CG (H:=Hint.none) (enM G) Tryz.func179 rfl (by kernel_rfl) (by kernel_rfl) (Nat.le_of_ble_eq_true (by kernel_rfl)) ?_
 show awp _ _ _ _ _ (EU _ [.tmp 2] _)
 simp -implicitDefEqProofs only [BB,AZ,BM,A8,CU,AY,BC,AO,AQ,AL,BD,AX,AC,AA,A7,AU,BH,BL,BA,FK,BO,BQ,BJ,BR,AB,EJ,BG,↓reduceIte,Nat.reduceEqDiff,Nat.zero_add,Option.getD_some,Bool.not_false,enP,MK,bxB,DI ag3,Q3]
 exact ⟨trivial,_,rfl⟩
/-- do all bins of a combination count? -/
def UJ (m:Mo) (p b:Int):Int:=match (II m p)[b.toNat]? with
 | some x=>x.kind
 | none=>0
def L8 (m:Mo):List Int→List Int→Bool
 | p :: ps,b :: bs=>(UJ m p b == 0) && L8 m ps bs
 | _,_=>true
def PW (m:Mo) (c:Cr) (l:List Int):Bool:=L8 m c.pts l && !(c.excl.any fun x=>eqL x.l l)
theorem XG {m:Mo} : ∀ {ps l:List Int},LY (szs m ps) l=true→∀ (k:Nat) (hk:k < l.length) (hp:k < ps.length),0≤l[k]∧l[k] < ((II m ps[k]).length:Int)
 | p :: ps,b :: bs,h,k,hk,hp=>by
   simp only [szs,List.map_cons,LY,Bool.and_eq_true,decide_eq_true_eq] at h
   cases k with
   | zero=>exact h.1
   | succ k=>exact XG (m:=m) (ps:=ps) h.2 k (by simpa using hk) (by simpa using hp)
 | [],b :: bs,h,k,hk,hp=>by simp at hp
 | _,[],h,k,hk,hp=>by simp at hk
theorem QY (m:Mo) (ps l:List Int) (k:Nat) (hp:k < ps.length) (hk:k < l.length):L8 m (ps.drop k) (l.drop k)=((UJ m ps[k] l[k] == 0) && L8 m (ps.drop (k+1)) (l.drop (k+1))):=by
 rw [List.drop_eq_getElem_cons hp,List.drop_eq_getElem_cons hk]; rfl
theorem TC (m:Mo) (ps:List Int):L8 m ps []=true:=by cases ps <;> rfl
/-- a bin of a combination, read -/
theorem AGJ {m:Mo} {p b:Int} (h0:0≤b) (h1:b < ((II m p).length:Int)) (h:Hp) (s:SM):LX 4 h (.sl s 4 ((II m p).map J9)) (.int .i64 b)=some (.fptr 4 ((II m p).map J9) b.toNat 0) :=
 AV4 h0 (by rw [List.length_map]; exact h1)
theorem XW {m:Mo} {p b:Int} (h0:0≤b) (h1:b < ((II m p).length:Int)):((II m p)[b.toNat]'(by omega)).kind=UJ m p b:=by
 unfold UJ; rw [List.getElem?_eq_getElem (by omega)]
theorem AUQ (G:Nat→AV) (l:List Int) (s:SM) (b:Nat) (r:Is) (h:Hp) (hb:h[b]? = some (.live 1 [[.sl s 1 (l.map encI)]])) (hl:l.length≤1099511627776) :
  PCall (En G) 221 [.sl r.m 1 (r.l.map encI),.ptr b 0 0] h (.bool (eqL r.l l)):=by
 refine CG (H:=Hint.none) (enM G) Tryz.func221 rfl (by kernel_rfl) (by kernel_rfl) (Nat.le_of_ble_eq_true (by kernel_rfl)) ?_
 show awp _ _ _ _ _ (EU _ [.tmp 3] _)
 simp -implicitDefEqProofs only [BB,AZ,A8,AY,BC,AO,AQ,AL,BD,AX,AC,AA,A7,AU,CB,BL,BF,BA,BO,CE,BX,AB,BG,BV,List.map_cons,List.map_nil,List.append_nil,↓reduceIte,Nat.reduceEqDiff,Option.getD_some,Bool.not_false,enP,LM LC hb]
 refine (WI G r.l l r.m s h hl).use ?_
 simp -implicitDefEqProofs only [BM,A8,CU,AY,BC,AO,AQ,AL,BD,AX,AC,AA,A7,BA,↓reduceIte,Option.getD_some,Bool.not_false]
 exact ⟨trivial,trivial⟩
end Go.Proofs.YtocilianjfhifaaGreatDoor.Cov
/- Combinations that count, and the combination with a number, on both sides (but cover.tuple); no condition but the bounds on lengths. -/
set_option linter.unusedSimpArgs false
set_option maxRecDepth 8000
namespace Go.Proofs.YtocilianjfhifaaGreatDoor.Cov
open Go Go.Proofs Go.Proofs.YtocilianjfhifaaGreatDoor.Sm Go.Proofs.YtocilianjfhifaaGreatDoor.Bins Go.RowKit

theorem Two.app {h H:Hp} {m:Mo} {c:Cr} {cb:Nat} (t:Two h H m c cb) (x:Hp):Two h (H ++ x) m c cb:=by
 obtain ⟨y,hy⟩:=t.hx
 exact ⟨IW t.gm,IW t.gc,⟨y ++ x,by rw [hy,List.append_assoc]⟩⟩
theorem ADB (G:Nat→AV) (m:Mo) (c:Cr) (l:List Int) (s:SM) (h:Hp) (hh:Here m c.pts) (hi:LY (szs m c.pts) l=true) (hl:c.pts.length≤1048576) (hx:c.excl.length≤1048576):PCall (En G) 169 [.agg (DU m),.agg (H6 c),.sl s 1 (l.map encI)] h (.bool (PW m c l)):=by
 refine ACalls.pure0 rfl ?_
 have hlen:l.length=c.pts.length:=by have:=PH hi; rw [J3] at this; omega
 refine CG (H:=Hint.none) (enM G) Tryz.func169 rfl (by kernel_rfl) (by kernel_rfl) (Nat.le_of_ble_eq_true (by kernel_rfl)) ?_
 show awp _ _ _ _ _ (EU _ [.tmp 6] _)
 have t:=(Two.mk' h m c).app [.live 1 [[.sl s 1 (l.map encI)]]]
 have gl:=CX (h ++ [ABlk.live 2 [DU m]] ++ [ABlk.live 3 [H6 c]]) (.live 1 [[.sl s 1 (l.map encI)]])
 simp -implicitDefEqProofs only [ASD,BB,AZ,A8,AY,BC,AO,AQ,AL,BD,AX,AC,AA,A7,AU,BL,BA,FK,BO,BR,BG,BV,↓reduceIte,Nat.reduceEqDiff,Option.getD_some,Bool.not_false,enP,bxM,bxC]
 generalize h ++ [ABlk.live 2 [DU m]] ++ [ABlk.live 3 [H6 c]] ++ [ABlk.live 1 [[.sl s 1 (l.map encI)]]]=H at t gl ⊢
 generalize (h ++ [ABlk.live 2 [DU m]] ++ [ABlk.live 3 [H6 c]]).length=lb at gl ⊢
 generalize (h ++ [ABlk.live 2 [DU m]]).length=cb at t ⊢
 simp -implicitDefEqProofs only [BP,A8,AY,BC,AO,AQ,AL,BD,AX,AC,AA,A7,AU,BH,BF,DN,AB,↓reduceIte,Option.getD_some,Bool.not_false,enP,IL,LM LC gl,List.length_map]
 have hkb:=QY m c.pts l
 refine F8 0 (fun F H'=>F 4 = .ptr cb 0 0∧F 5 = .ptr lb 0 0∧H'=H∧L8 m c.pts l=true) (fun F H'=>F 6 = .bool false∧H'=H∧L8 m c.pts l=false) ?_ ?_ ?_
 ·refine C9 (fun n F H' => ∃ k,n+k=l.length∧F 3 = .ptr h.length 0 0∧F 4 = .ptr cb 0 0∧F 5 = .ptr lb 0 0∧F 9 = .sl s 1 (l.map encI)∧F 10 = .int .i64 l.length∧F 11 = .int .i64 (k:Nat)∧H'=H∧L8 m c.pts l=L8 m (c.pts.drop k) (l.drop k)) l.length ⟨0,by simp,by simp -implicitDefEqProofs only [AA,↓reduceIte,Nat.reduceEqDiff],by simp -implicitDefEqProofs only [AA,↓reduceIte,Nat.reduceEqDiff],by simp -implicitDefEqProofs only [AA,↓reduceIte,Nat.reduceEqDiff],by simp -implicitDefEqProofs only [AA,↓reduceIte,Nat.reduceEqDiff],by simp -implicitDefEqProofs only [AA,↓reduceIte,Nat.reduceEqDiff],by simp -implicitDefEqProofs only [AA,↓reduceIte]; rfl,rfl,rfl⟩ ?_
  rintro n F H' ⟨k,hk,f3,f4,f5,f9,f10,f11,rfl,hk0⟩
  simp -implicitDefEqProofs only [BB,AZ,BI,A8,AY,BC,AO,AQ,AL,BD,AX,AC,AA,A7,BQ,AB,CW,↓reduceIte,Option.getD_some,Bool.not_false,enP,f10,f11]
  refine CQ (fun hc => ?_) (fun hc => ?_)
  ·have hk':k < l.length:=by simpa using hc
   have hkc:k < c.pts.length:=by omega
   rw [hkb k hkc hk'] at hk0
   obtain ⟨h0,h1⟩:=XG hi k hk' hkc
   obtain ⟨s2,ls⟩:=hh.ld hkc H'
   simp -implicitDefEqProofs only [BB,BP,AZ,BN,A8,AY,BC,AO,AQ,AL,BD,AX,AC,AA,A7,BF,BA,BO,BZ,AB,↓reduceIte,Nat.reduceEqDiff,Option.getD_some,Bool.not_false,enP,JQ,f9,f11,DJ hk',CV ag3 hk',encI0]
   refine ER (by kernel_rfl) ?_
   simp -implicitDefEqProofs only [F7,D9,DT,EC,FH,FC,AE6,D5,D7,GM,F6,AO,AA,A7,CB,BO,H9,BJ,BZ,AB,List.map_cons,List.map_nil,List.append_nil,↓reduceIte,Nat.reduceEqDiff,Nat.reduceAdd,Nat.add_zero,Nat.zero_add,Option.getD_some,enP,OJ,IG,XD,IU,JQ,JJ,f3,f4,f11,t.lm,t.l1,DJ hkc,CV ag3 hkc,encI0,hh.ix hkc,ls,AGJ h0 h1,FD ZI UB MP (show l[k].toNat < (II m c.pts[k]).length by omega)]
   refine ⟨_,ZC G _ _,?_⟩
   try simp -implicitDefEqProofs only [DT,E8,BI,A8,AA,A7,AB,FB,↓reduceIte]
   rw [XW h0 h1]
   cases hkd:(UJ m c.pts[k] l[k] == 0)
   ·simp -implicitDefEqProofs only [BB,AZ,BM,A8,CS,EG,LW,FM,DX,AY,BC,AO,AQ,AL,BD,AX,AC,AA,AU,BL,BA,↓reduceIte,Option.getD_some,Bool.not_false]
    exact ⟨trivial,trivial,by rw [hk0,hkd]; rfl⟩
   ·simp -implicitDefEqProofs only [AZ,BN,A8,D8,ED,DY,AY,BC,AO,AQ,AL,BD,AX,AC,AA,A7,AU,BH,BF,BQ,AB,CZ,↓reduceIte,Nat.reduceEqDiff,Option.getD_some,Bool.not_true,Bool.not_false,enP,f11,wrap_succ (show k < 9223372036854775807 by omega)]
    exact ⟨n - 1,by omega,k+1,by omega,f3,f4,f5,f9,f10,rfl,trivial,by rw [hk0,hkd]; rfl⟩
  ·have hk' : ¬ k < l.length:=by simpa using hc
   simp -implicitDefEqProofs only [DC,DZ,JM,EP,AA,↓reduceIte,Nat.reduceEqDiff]
   exact ⟨f4,f5,trivial,by rw [hk0,List.drop_eq_nil_of_le (show l.length≤k by omega),TC]⟩
 ·rintro F H' ⟨f4,f5,rfl,hk⟩
  simp -implicitDefEqProofs only [BB,AZ,A8,EN,AY,AO,AQ,AL,BD,AX,AC,AA,A7,CB,BO,LZ,BJ,CE,BX,AB,List.map_cons,List.map_nil,List.append_nil,↓reduceIte,Nat.reduceEqDiff,Nat.zero_add,Option.getD_some,Bool.not_false,enP,PM,f4,f5,t.l2]
  refine (QM G c.excl c.xm 221 _ (fun x=>eqL x.l l) _ (by omega) fun r=>AUQ G l s _ r _ gl (by omega)).use ?_
  simp -implicitDefEqProofs only [BM,A8,CU,AY,BC,AO,AQ,AL,BD,AX,AC,AA,A7,BA,H9,AB,FB,↓reduceIte,Option.getD_some,Bool.not_false]
  exact ⟨by unfold PW; rw [hk]; rfl,t.hx⟩
 ·rintro F H' ⟨f6,rfl,hk⟩
  simp -implicitDefEqProofs only [CS,EG,CU,f6]
  exact ⟨by unfold PW; rw [hk]; rfl,t.hx⟩
theorem AK5 (G:Nat→AV) (m:Mo) (c:Cr) (l:List Int) (s:SM) (h:Hp) (hh:Here m c.pts) (hi:LY (szs m c.pts) l=true) (hl:c.pts.length≤1048576) (hx:c.excl.length≤1048576):PCall (En G) 90 [.agg (DU m),.agg (H6 c),.sl s 1 (l.map encI)] h (.bool (PW m c l)):=by
 refine ACalls.pure0 rfl ?_
 have hlen:l.length=c.pts.length:=by have:=PH hi; rw [J3] at this; omega
 refine CG (H:=Hint.none) (enM G) Tryz.func90 rfl (by kernel_rfl) (by kernel_rfl) (Nat.le_of_ble_eq_true (by kernel_rfl)) ?_
 show awp _ _ _ _ _ (EU _ [.tmp 6] _)
 have t:=Two.mk' h m c
 simp -implicitDefEqProofs only [BB,BP,AZ,A8,AY,BC,AO,AQ,AL,BD,AX,AC,AA,A7,AU,BH,BL,BA,FK,BR,BG,BV,↓reduceIte,Nat.reduceEqDiff,Option.getD_some,Bool.not_false,enP,bxM,bxC]
 generalize h ++ [ABlk.live 2 [DU m]] ++ [ABlk.live 3 [H6 c]]=H at t ⊢
 generalize (h ++ [ABlk.live 2 [DU m]]).length=cb at t ⊢
 have hkb:=QY m c.pts l
 refine F8 0 (fun F H'=>F 2 = .sl s 1 (l.map encI)∧F 3 = .ptr h.length 0 0∧F 4 = .ptr cb 0 0∧H'=H∧(c.excl.any fun x=>eqL x.l l)=false) (fun F H'=>F 6 = .bool false∧H'=H∧(c.excl.any fun x=>eqL x.l l)=true) ?_ ?_ ?_
 ·refine C9 (fun n F H' => ∃ k,n+k=c.excl.length∧F 2 = .sl s 1 (l.map encI)∧F 3 = .ptr h.length 0 0∧F 4 = .ptr cb 0 0∧F 7 = .int .i64 (k:Nat)∧H'=H∧(c.excl.any fun x=>eqL x.l l)=((c.excl.drop k).any fun x=>eqL x.l l)) c.excl.length ⟨0,by simp,by simp -implicitDefEqProofs only [AA,BG,BV,↓reduceIte,Nat.reduceEqDiff],by simp -implicitDefEqProofs only [AA,↓reduceIte,Nat.reduceEqDiff],by simp -implicitDefEqProofs only [AA,↓reduceIte,Nat.reduceEqDiff],by simp -implicitDefEqProofs only [AA,↓reduceIte]; rfl,rfl,rfl⟩ ?_
  rintro n F H' ⟨k,hk,f2,f3,f4,f7,rfl,ha⟩
  simp -implicitDefEqProofs only [BB,AZ,BI,A8,AY,BC,AO,AQ,AL,BD,AX,AC,AA,A7,BF,BO,BQ,BJ,DN,AB,CW,↓reduceIte,Nat.reduceEqDiff,Nat.zero_add,Option.getD_some,Bool.not_false,enP,YF,PM,f4,f7,t.l2,List.length_map]
  refine CQ (fun hc => ?_) (fun hc => ?_)
  ·have hk':k < c.excl.length:=by simpa using hc
   have hs:=LV (fun x:Is=>eqL x.l l) c.excl k hk'
   simp -implicitDefEqProofs only [BB,BP,AZ,BN,A8,AY,AO,AQ,AL,BD,AX,AC,AA,A7,CB,BF,BO,BJ,BZ,CE,BX,AB,List.map_cons,List.map_nil,List.append_nil,↓reduceIte,Nat.reduceEqDiff,Nat.zero_add,Option.getD_some,Bool.not_false,enP,QT,PM,f2,f4,f7,t.l2,DJ hk',CV LC hk',NC]
   refine (AJ5 G c.excl[k].l l _ s _ (by omega)).use ?_
   simp -implicitDefEqProofs only [BI,A8,BC,AC,AA,A7,↓reduceIte]
   cases he:eqL c.excl[k].l l
   ·simp -implicitDefEqProofs only [AZ,BN,A8,D8,ED,DY,AY,BC,AO,AQ,AL,BD,AX,AC,AA,A7,AU,BH,BF,BA,BQ,AB,CZ,↓reduceIte,Nat.reduceEqDiff,Option.getD_some,Bool.not_false,enP,f7,wrap_succ (show k < 9223372036854775807 by omega)]
    exact ⟨n - 1,by omega,k+1,by omega,f2,f3,f4,rfl,trivial,by rw [ha,hs,he]; rfl⟩
   ·simp -implicitDefEqProofs only [BB,AZ,BM,A8,CS,EG,LW,FM,DX,AY,BC,AO,AQ,AL,BD,AX,AC,AA,AU,BL,BA,↓reduceIte,Option.getD_some,Bool.not_false]
    exact ⟨trivial,trivial,by rw [ha,hs,he]; rfl⟩
  ·have hk' : ¬ k < c.excl.length:=by simpa using hc
   simp -implicitDefEqProofs only [DC,DZ,JM,EP,AA,↓reduceIte,Nat.reduceEqDiff]
   exact ⟨f2,f3,f4,trivial,by rw [ha,List.drop_eq_nil_of_le (by omega)]; rfl⟩
 ·rintro F H' ⟨f2,f3,f4,rfl,ha⟩
  have hhb:PW m c l=L8 m c.pts l:=by unfold PW; rw [ha]; simp
  rw [hhb]
  simp -implicitDefEqProofs only [BB,BP,AZ,A8,EN,AY,BC,AO,AQ,AL,BD,AX,AC,AU,BH,BA,↓reduceIte,Option.getD_some,Bool.not_false]
  refine C9 (fun n F H => ∃ k,n+k=l.length∧F 2 = .sl s 1 (l.map encI)∧F 3 = .ptr h.length 0 0∧F 4 = .ptr cb 0 0∧F 8 = .int .i64 (k:Nat)∧H=H'∧L8 m c.pts l=L8 m (c.pts.drop k) (l.drop k)) l.length ⟨0,by simp,by simp -implicitDefEqProofs only [AA,↓reduceIte,Nat.reduceEqDiff,f2],by simp -implicitDefEqProofs only [AA,↓reduceIte,Nat.reduceEqDiff,f3],by simp -implicitDefEqProofs only [AA,↓reduceIte,Nat.reduceEqDiff,f4],by simp -implicitDefEqProofs only [AA,↓reduceIte]; rfl,rfl,rfl⟩ ?_
  clear f2 f3 f4
  rintro n F H' ⟨k,hk,f2,f3,f4,f8,rfl,hk0⟩
  simp -implicitDefEqProofs only [BB,AZ,BI,A8,AY,BC,AO,AQ,AL,BD,AX,AC,AA,A7,BF,BQ,DN,AB,CW,↓reduceIte,Nat.reduceEqDiff,Option.getD_some,Bool.not_false,enP,IL,f2,f8,List.length_map]
  refine CQ (fun hc => ?_) (fun hc => ?_)
  ·have hk':k < l.length:=by simpa using hc
   have hkc:k < c.pts.length:=by omega
   rw [hkb k hkc hk'] at hk0
   obtain ⟨h0,h1⟩:=XG hi k hk' hkc
   obtain ⟨s2,ls⟩:=hh.ld hkc H'
   have hlt:l[k].toNat < (II m c.pts[k]).length:=by omega
   simp -implicitDefEqProofs only [BB,BP,BN,A8]
   refine ER (by kernel_rfl) ?_
   simp -implicitDefEqProofs only [F7,D9,DT,E8,EC,FH,FC,IE,D5,D7,BI,A8,AO,AA,A7,AU,BH,BO,BQ,BJ,BZ,AB,EQ,↓reduceIte,Nat.reduceEqDiff,Nat.reduceAdd,Nat.add_zero,Nat.zero_add,Option.getD_some,enP,OJ,IG,XD,IU,JQ,JJ,MK,bne,f2,f3,f4,f8,t.lm,t.l1,DJ hkc,CV ag3 hkc,DJ hk',CV ag3 hk',encI0,hh.ix hkc,ls,AGJ h0 h1,CV ag3 hlt,Q3,XW h0 h1]
   cases hkd:(UJ m c.pts[k] l[k] == 0)
   ·simp -implicitDefEqProofs only [BB,AZ,BM,A8,CS,EG,FM,CU,DX,AY,BC,AO,AQ,AL,BD,AX,AC,AA,AU,BL,BA,↓reduceIte,Option.getD_some,Bool.not_false]
    exact ⟨by rw [hk0,hkd]; rfl,t.hx⟩
   ·simp -implicitDefEqProofs only [AZ,BN,A8,D8,ED,DY,AY,BC,AO,AQ,AL,BD,AX,AC,AA,A7,AU,BH,BF,BA,BQ,AB,CZ,↓reduceIte,Nat.reduceEqDiff,Option.getD_some,Bool.not_true,Bool.not_false,enP,f8,wrap_succ (show k < 9223372036854775807 by omega)]
    exact ⟨n - 1,by omega,k+1,by omega,f2,f3,f4,rfl,trivial,by rw [hk0,hkd]; rfl⟩
  ·have hk' : ¬ k < l.length:=by simpa using hc
   simp -implicitDefEqProofs only [BB,AZ,BM,DC,A8,DZ,EN,EP,CU,AY,BC,AO,AQ,AL,BD,AX,AC,AA,AU,BL,BA,↓reduceIte,Option.getD_some,Bool.not_false]
   exact ⟨by rw [hk0,List.drop_eq_nil_of_le (show l.length≤k by omega),TC],t.hx⟩
 ·rintro F H' ⟨f6,rfl,ha⟩
  simp -implicitDefEqProofs only [CS,EG,CU,f6]
  exact ⟨by unfold PW; rw [ha]; simp,t.hx⟩
end Go.Proofs.YtocilianjfhifaaGreatDoor.Cov
/- The combination with a number: the reference's Tuple of layer 46; no condition but the bounds on lengths. -/
set_option linter.unusedSimpArgs false
set_option maxRecDepth 8000
namespace Go.Proofs.YtocilianjfhifaaGreatDoor.Cov
open Go Go.Proofs Go.Proofs.YtocilianjfhifaaGreatDoor.Sm Go.Proofs.YtocilianjfhifaaGreatDoor.Bins Go.RowKit

theorem AAK (xs:List Nat):xs.map FI=(xs.map fun n:Nat=>(n:Int)).map encI:=by
 rw [List.map_map]; rfl
/-- the digits, and what is left -/
def tupF:List Nat→Nat→List Nat × Nat
 | [],k=>([],k)
 | n :: ns,k=>(((tupF ns k).2 % n) :: (tupF ns k).1,(tupF ns k).2 / n)
def NP (ns:List Nat) (k:Nat):List Int:=(tupF ns k).1.map fun n:Nat=>(n:Int)
theorem NF : ∀ (ns:List Nat) (k:Nat),(tupF ns k).1.length=ns.length
 | [],_=>rfl
 | n :: ns,k=>by simp [tupF,NF ns k]
theorem ZY : ∀ (ns:List Nat) (k:Nat),(tupF ns k).2≤k
 | [],_=>Nat.le_refl _
 | _ :: ns,k=>Nat.le_trans (Nat.div_le_self _ _) (ZY ns k)
theorem UA : ∀ (ns:List Nat) (k:Nat),(∀ n∈ns,1≤n)→LY ns (NP ns k)=true
 | [],_,_=>rfl
 | n :: ns,k,h=>by
   have h1:=h n (by simp)
   have ih:=UA ns k (fun x hx=>h x (by simp [hx]))
   have h2:(tupF ns k).2 % n < n:=Nat.mod_lt _ (by omega)
   show LY (n :: ns) (((tupF ns k).2 % n:Nat) :: NP ns k)=true
   unfold LY
   rw [ih]
   simp; omega
theorem tup_step {ns:List Nat} {K j:Nat} (hj:j < ns.length):tupF (ns.drop j) K=(((tupF (ns.drop (j+1)) K).2 % ns[j]) :: (tupF (ns.drop (j+1)) K).1,(tupF (ns.drop (j+1)) K).2 / ns[j]):=by
 rw [List.drop_eq_getElem_cons hj]; rfl
theorem AAW {α:Type} {f:α→List AV} {pre out:List α} {j:Nat} {x:α} (hj:j < pre.length):((pre.take (j+1) ++ out).map f).set j (f x)=(pre.take j ++ x :: out).map f:=by
 rw [List.take_succ_eq_append_getElem hj,List.append_assoc]
 simp only [List.map_append,List.map_cons,List.map_nil,List.singleton_append]
 rw [List.set_append_right _ _ (by simp; omega)]
 simp [Nat.min_eq_left (Nat.le_of_lt hj)]
theorem AT4 (h:Hp) (n:Nat) (hn:n≤1048576):JD Tryz.prog true h 57 (.int .i64 (n:Int)) (.int .i64 (n:Int))=some (.own h.length 0 n,h ++ [.live 1 ((List.replicate n 0).map FI)]):=by
 have hz:NM Tryz.prog 3=some [.int .i64 0]:=by kernel_rfl
 have hr:room n 8:=KO (by omega) (by omega)
 unfold JD
 simp only [QB,sz3,WN,hz,Int.toNat_natCast]
 rw [if_pos ⟨by omega,Int.le_refl _,hr,rfl⟩]
 simp [FI]
theorem AJY {h:Hp} {o j:Nat} {rows:List (List AV)} {x:Nat} (ho:h[o]? = some (.live 1 rows)) (hj : ∃ v,rows[j]? = some [v]):GG Tryz.prog h 3 (.ptr o j 0) (.int .i64 (x:Int))=some (h.set o (.live 1 (rows.set j (FI x)))):=by
 obtain ⟨v,hv⟩:=hj
 rw [MH (TK _ _) sz3 ho hv (by simp)]; rfl
theorem Z7 (a b:Nat) (hb:0 < b):MJ Tryz.prog 3 .rem (.int .i64 (a:Int)) (.int .i64 (b:Int))=some (.int .i64 ((a % b:Nat):Int)):=by
 rw [AGI _ _ _ _ _ (by omega),Int.tmod_eq_emod_of_nonneg (by omega)]; rfl
theorem AFJ (a b:Nat) (hb:0 < b) (ha:a≤9223372036854775807):MJ Tryz.prog 3 .quo (.int .i64 (a:Int)) (.int .i64 (b:Int))=some (.int .i64 ((a / b:Nat):Int)):=by
 have h1:((a:Int).tdiv (b:Int))=((a / b:Nat):Int):=by rw [Int.tdiv_eq_ediv_of_nonneg (by omega)]; rfl
 have h2:=Nat.div_le_self a b
 rw [AU6 _ _ _ _ _ (by omega),h1,TY (by omega)]
theorem ANU (G:Nat→AV) (m:Mo) (c:Cr) (K:Nat) (h:Hp) (hh:Here m c.pts) (hf:Full m) (h0:0 < c.pts.length) (hl:c.pts.length≤1048576) (hK:K≤1048576):PCall (En G) 91 [.agg (DU m),.agg (H6 c),.int .i64 (K:Int)] h (.sl .any 1 ((NP (szs m c.pts) K).map encI)):=by
 have hs:=hf.szs hh
 have hsl:=J3 m c.pts
 have hgo:ACalls (En G) 91 [.agg (DU m),.agg (H6 c),.int .i64 (K:Int)] h fun v H=>ext h H∧outG 1 FI h (tupF (szs m c.pts) K).1 v H:=by
  refine CG (H:=Hint.none) (enM G) Tryz.func91 rfl (by kernel_rfl) (by kernel_rfl) (Nat.le_of_ble_eq_true (by kernel_rfl)) ?_
  show awp _ _ _ _ _ (EU _ [.tmp 6] _)
  have t:=Two.mk' h m c
  have hlt:h.length≤(h ++ [ABlk.live 2 [DU m]] ++ [ABlk.live 3 [H6 c]]).length:=by simp
  have he0:ext h (h ++ [ABlk.live 2 [DU m]] ++ [ABlk.live 3 [H6 c]]):=((ext.rfl' h).app _).app _
  simp -implicitDefEqProofs only [BB,AZ,A8,AY,BC,AO,AQ,AL,BD,AX,AC,AA,A7,AU,FV,BA,FK,BO,BJ,BR,AB,BG,BV,↓reduceIte,Nat.reduceEqDiff,Nat.zero_add,Option.getD_some,Bool.not_false,enP,JJ,bxM,bxC]
  generalize h ++ [ABlk.live 2 [DU m]] ++ [ABlk.live 3 [H6 c]]=H at t hlt he0 ⊢
  generalize (h ++ [ABlk.live 2 [DU m]]).length=cb at t ⊢
  have t2:Two h (H ++ [.live 1 ((List.replicate c.pts.length 0).map FI)]) m c cb:=t.app _
  simp -implicitDefEqProofs only [BB,BP,AZ,A8,AY,BC,AO,AQ,AL,BD,AX,AC,AA,A7,AU,BH,BA,BO,BQ,JV,BJ,DN,BR,AB,KY,↓reduceIte,Nat.reduceEqDiff,Nat.zero_add,Option.getD_some,Bool.not_false,enP,IL,JJ,t.l1,List.length_map,AT4 _ _ hl,t2.l1]
  rw [wrap_i64 (n:=(c.pts.length:Int) - 1) (by omega) (by omega)]
  refine C9 (fun n F H' => ∃ j,n=j∧j≤c.pts.length∧F 3 = .ptr h.length 0 0∧F 4 = .ptr cb 0 0∧F 7 = .own H.length 0 c.pts.length∧F 8 = .int .i64 ((j:Int) - 1)∧F 2 = .int .i64 ((tupF ((szs m c.pts).drop j) K).2:Nat)∧Two h H' m c cb∧ext h H'∧H'[H.length]? = some (.live 1 (((List.replicate c.pts.length 0).take j ++ (tupF ((szs m c.pts).drop j) K).1).map FI))) c.pts.length ⟨c.pts.length,rfl,Nat.le_refl _,by simp -implicitDefEqProofs only [AA,↓reduceIte,Nat.reduceEqDiff],by simp -implicitDefEqProofs only [AA,↓reduceIte,Nat.reduceEqDiff],by simp -implicitDefEqProofs only [AA,↓reduceIte,Nat.reduceEqDiff],by simp -implicitDefEqProofs only [AA,↓reduceIte],by simp -implicitDefEqProofs only [AA,BG,BV,↓reduceIte,Nat.reduceEqDiff]; rw [List.drop_eq_nil_of_le (by omega)]; rfl,t2,he0.app _,?_⟩ ?_
  ·rw [List.drop_eq_nil_of_le (by omega),List.take_of_length_le (by simp)]
   simp only [tupF,List.append_nil]
   exact CX _ _
  rintro n F H' ⟨j,rfl,hj,f3,f4,f7,f8,f2,t',he,ho⟩
  simp -implicitDefEqProofs only [BB,AZ,BI,A8,AY,BC,AO,AQ,AL,BD,AX,AC,AA,A7,AU,BH,BF,BQ,AB,G7,↓reduceIte,Option.getD_some,Bool.not_false,enP,f8]
  cases n with
  | zero =>
    have:decide ((((0:Nat):Int) - 1)≥0)=false:=by decide
    simp -implicitDefEqProofs only [BB,AZ,BM,DC,A8,DZ,EN,EP,CU,DY,AY,BC,AO,AQ,AL,BD,AX,AC,AA,A7,BF,BA,↓reduceIte,Nat.reduceEqDiff,Option.getD_some,Bool.not_false,this,f7]
    rw [List.take_zero,List.nil_append,List.drop_zero] at ho
    refine ⟨he,.inr ⟨?_,H.length,hlt,by rw [NF,hsl],ho⟩⟩
    intro e
    have:=NF (szs m c.pts) K
    rw [e] at this; simp at this; omega
  | succ j =>
    have hd:decide ((((j+1:Nat):Int) - 1)≥0)=true:=by simp
    have hj':j < c.pts.length:=by omega
    have hjs:j < (szs m c.pts).length:=by omega
    have hgt:(szs m c.pts)[j]=(II m c.pts[j]).length:=GZ (U4 m c.pts j hj')
    have h1:=(hs _ (List.getElem_mem hjs)).1
    rw [hgt] at h1
    obtain ⟨s,ls⟩:=hh.ld hj' H'
    have e1:(((j+1:Nat):Int) - 1)=(j:Int):=by omega
    have hst:=tup_step (K:=K) hjs
    rw [hgt] at hst
    have hle:=ZY ((szs m c.pts).drop (j+1)) K
    generalize hr:(tupF ((szs m c.pts).drop (j+1)) K)=r at ho f2 hst hle
    have hrow : ∃ v,(((List.replicate c.pts.length 0).take (j+1) ++ r.1).map FI)[j]? = some [v]:=by
     refine ⟨.int .i64 0,?_⟩
     rw [List.getElem?_map,List.getElem?_append_left (by simp; omega),List.getElem?_take_of_lt (by omega),List.getElem?_replicate_of_lt hj']
     rfl
    have hset:=AAW (f:=FI) (pre:=List.replicate c.pts.length 0) (out:=r.1) (j:=j) (x:=r.2 % (II m c.pts[j]).length) (by simpa using hj')
    have hlo:=CJ ho
    simp -implicitDefEqProofs only [BB,BP,BN,A8,DX,hd]
    refine ER (by kernel_rfl) ?_
    simp -implicitDefEqProofs only [F7,D9,DT,E8,EC,FH,IQ,FC,D5,D7,GV,BB,AZ,A8,D8,ED,AY,BC,AO,AQ,AL,BD,AX,AC,EZ,AA,A7,AU,BH,BF,BA,BO,EI,BQ,BJ,BZ,DN,AB,DR,KY,↓reduceIte,Nat.reduceEqDiff,Nat.reduceAdd,Nat.add_zero,Nat.zero_add,Option.getD_some,Bool.not_false,enP,OJ,IG,QS,IU,JQ,JJ,Option.getD_none,f2,f3,f4,f7,f8,e1,t'.lm,t'.l1,DJ hj',CV ag3 hj',encI0,hh.ix hj',ls,List.length_map,TD ho hj',Z7 _ _ h1,AFJ _ _ h1 (show r.2≤9223372036854775807 by omega),AJY ho hrow,hset]
    refine ⟨j,by omega,j,rfl,by omega,trivial,trivial,trivial,?_,?_,⟨EX t'.gm ?_,EX t'.gc ?_,?_⟩,he.set hlt _,?_⟩
    ·rw [wrap_i64 (by omega) (by omega)]
    ·rw [hst]
    ·exact Nat.ne_of_lt (CJ t.gm)
    ·exact Nat.ne_of_lt (CJ t.gc)
    ·exact he.set hlt _
    ·rw [hst]; exact EM ho
 have hp:=MS AOS hgo
 have hne:(tupF (szs m c.pts) K).1≠[]:=by
  intro e
  have:=NF (szs m c.pts) K
  rw [e] at this; simp at this; omega
 rw [AAK] at hp
 have hnm:nm (tupF (szs m c.pts) K).1=SM.any:=by
  cases hx:(tupF (szs m c.pts) K).1 with
  | nil=>exact absurd hx hne
  | cons a l=>rfl
 rw [hnm] at hp
 exact hp
end Go.Proofs.YtocilianjfhifaaGreatDoor.Cov
