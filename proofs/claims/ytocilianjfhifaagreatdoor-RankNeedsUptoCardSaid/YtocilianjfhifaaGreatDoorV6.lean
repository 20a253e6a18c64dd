/- Part 6 of the proof (L1, M4, M5, M6, M7, M8, M9, M10, M11); no condition. -/
import Derived.Test.YtocilianjfhifaaGreatDoorV5
set_option linter.unusedVariables false
/- Lists that are built by appending; whatever the element; no condition. -/
namespace Go.Proofs.YtocilianjfhifaaGreatDoor.Cov
open Go Go.Proofs Go.Proofs.YtocilianjfhifaaGreatDoor.Sm Go.Proofs.YtocilianjfhifaaGreatDoor.Bins Go.RowKit

def outG {α:Type} (k:Nat) (f:α→List AV) (h:Hp) (ys:List α) (v:AV) (H:Hp):Prop :=
 (ys = []∧v = .sl .nil 0 [])∨(ys≠[]∧∃ o,h.length≤o∧v = .own o 0 ys.length∧H[o]? = some (.live k (ys.map f)))
theorem outG.nil {α:Type} (k:Nat) (f:α→List AV) (h H:Hp):outG k f h [] (.sl .nil 0 []) H := .inl ⟨rfl,rfl⟩
theorem outG.keep {α:Type} {k:Nat} {f:α→List AV} {h H H':Hp} {ys:List α} {v:AV} (ho:outG k f h ys v H) (hk : ∀ b,isB v b→H'[b]? = H[b]?):outG k f h ys v H':=by
 rcases ho with h1 | ⟨h1,o,h2,rfl,h3⟩
 ·exact .inl h1
 ·exact .inr ⟨h1,o,h2,rfl,by rw [hk o rfl]; exact h3⟩
theorem outG.lt {α:Type} {k:Nat} {f:α→List AV} {h H:Hp} {ys:List α} {v:AV} {b:Nat} (ho:outG k f h ys v H) (hb:isB v b):h.length≤b∧b < H.length:=by
 rcases ho with ⟨_,rfl⟩ | ⟨_,o,h2,rfl,h3⟩
 ·exact hb.elim
 ·cases hb; exact ⟨h2,CE h3⟩
theorem outG.app {α:Type} {k:Nat} {f:α→List AV} {h H:Hp} {ys:List α} {v:AV} (ho:outG k f h ys v H) (x:Hp):outG k f h ys v (H ++ x) :=
 ho.keep fun _ hb=>List.getElem?_append_left (ho.lt hb).2
theorem outG.append {P:Program} {t e:TypeId} {α:Type} {k bs:Nat} {f:α→List AV} {h H:Hp} {ys:List α} {v:AV} (ho:outG k f h ys v H) (hu:P.underlying t=some (.slice e)) (hs:szO P e=some k) (hz:PG P e=some k) (hb:KD P e=some bs) (hbs:bs≤4194304) (hl:ys.length < 8388608) (he:ext h H) (y:α) :
  ∃ v' H',F5 P true H t t v (.sl .full k [f y])=some (v',H')∧outG k f h (ys ++ [y]) v' H'∧(∀ b x,H[b]? = some x→¬ isB v b→H'[b]? = some x)∧ext h H'∧H.length≤H'.length∧∀ b,isB v' b→b=H.length:=by
 have h1:([f y]:List (List AV))≠[]:=by simp
 rcases ho with ⟨rfl,rfl⟩ | ⟨hne,o,h2,rfl,h3⟩
 ·exact ⟨_,_,V4 hu hs hz hb (J7 H .full k [f y]) h1 (JY (by simp) hbs),.inr ⟨by simp,H.length,he.le,rfl,by simp⟩,fun b x hb _=>H6 hb,he.app _,by simp,fun b hb=>hb.symm⟩
 ·have hc:JL H (.own o 0 ys.length)=some (k,ys.map f):=by
   rw [OO h3 (by simp),List.drop_zero,List.take_of_length_le (by simp)]
  refine ⟨_,_,Y2 hu hs hz hb hc (J7 H .full k [f y]) h1 (JY (by simp; omega) hbs),.inr ⟨by simp,H.length,he.le,by simp,by simp⟩,fun b x hb hn => ?_,(he.set h2 _).app _,by simp,fun b hb=>hb.symm⟩
  have hn' : ¬ o=b:=hn
  refine H6 ?_
  rw [List.getElem?_set,if_neg hn']; exact hb
theorem outG.len {P:Program} {t:TypeId} {α:Type} {k:Nat} {f:α→List AV} {h H:Hp} {ys:List α} {v:AV} (ho:outG k f h ys v H) (hl:(∀ m k xs,JD P t (.sl m k xs)=some (.int .i64 xs.length))∧∀ b off len,JD P t (.own b off len)=some (.int .i64 len)):JD P t v=some (.int .i64 ys.length):=by
 rcases ho with ⟨rfl,rfl⟩ | ⟨_,o,_,rfl,_⟩
 ·exact hl.1 _ _ _
 ·exact hl.2 _ _ _
def nm {α:Type} (ys:List α):SM:=match ys with
 | [] => .nil
 | _ => .any
theorem AG4 (n:Nat) (h:Hp) (d b off len k:Nat) (xs:List (List AV)) (hn : ¬ b < n) (hb:h[b]? = some (.live k xs)):IM n h (d+1) (.own b off len)=if off+len≤xs.length∧(((xs.drop off).take len).map (·.map (IM n h d))).all (·.all AV.leaf)=true then .sl .any k (((xs.drop off).take len).map (·.map (IM n h d))) else .junk:=by
 rw [IM]
 simp only [hn,if_false,hb]
/-- rows that freezing leaves as they are -/
def Frz {α:Type} (f:α→List AV):Prop := ∀ (n:Nat) (h:Hp) (d:Nat) (x:α),(f x).map (IM n h (d+1))=f x∧(f x).all AV.leaf=true
theorem AP5 {α:Type} {f:α→List AV} (hf:Frz f) (n:Nat) (h:Hp) (d:Nat) (xs:List α):(xs.map f).map (·.map (IM n h (d+1)))=xs.map f:=by
 rw [List.map_map]
 exact List.map_congr_left fun x _=>(hf n h d x).1
theorem VM {α:Type} {f:α→List AV} (hf:Frz f) {n d k:Nat} {h:Hp} {o:Nat} {xs:List α} (hn:n≤o) (ho:h[o]? = some (.live k (xs.map f))):IM n h (d+2) (.own o 0 xs.length) = .sl .any k (xs.map f):=by
 rw [AG4 n h (d+1) o 0 xs.length k _ (by omega) ho,List.drop_zero,List.take_of_length_le (by simp),AP5 hf n h d xs]
 rw [if_pos]
 refine ⟨by simp,?_⟩
 rw [List.all_eq_true]
 intro row hr
 obtain ⟨x,_,rfl⟩:=List.mem_map.1 hr
 exact (hf n h d x).2
theorem LA {E:Env} {f:FuncId} {args:List AV} {h:Hp} {α:Type} {k:Nat} {enc:α→List AV} (hf:Frz enc) {ys:List α} (hc:ACalls E f args h fun v H=>ext h H∧outG k enc h ys v H):PCall E f args h (.sl (nm ys) k (ys.map enc)):=by
 have h1:ACalls E f args h fun v H=>v=(if ys.length=0 then AV.sl .nil 0 [] else .sl .any k (ys.map enc))∧H=h:=by
  refine ACalls.pure 2 hc ?_
  rintro v H ⟨hex,hout⟩
  refine ⟨hex,?_⟩
  rcases hout with ⟨rfl,rfl⟩ | ⟨hne,o,ho1,rfl,ho⟩
  ·rfl
  ·rw [if_neg (by simpa using hne)]; exact VM hf ho1 ho
 refine h1.conv ?_
 rintro v H ⟨rfl,rfl⟩
 refine ⟨_,⟨rfl,rfl⟩,?_⟩
 intro g cv hr
 cases ys with
 | nil=>exact AGK hr
 | cons y ys=>exact hr
end Go.Proofs.YtocilianjfhifaaGreatDoor.Cov
/- Crosses: their sizes and combinations, on both sides; no condition but the bounds on lengths. -/
set_option linter.unusedSimpArgs false
set_option maxRecDepth 8000
namespace Go.Proofs.YtocilianjfhifaaGreatDoor.Cov
open Go Go.Proofs Go.Proofs.YtocilianjfhifaaGreatDoor.Sm Go.Proofs.YtocilianjfhifaaGreatDoor.Bins Go.RowKit

def G5 (m:Mo) (p:Int):List Bin:=match m.pts[p.toNat]? with
 | some q=>q.bins
 | none => []
def szs (m:Mo) (l:List Int):List Nat:=l.map fun p=>(G5 m p).length
/-- points that are there -/
def Here (m:Mo) (l:List Int):Prop := ∀ p∈l,0≤p∧p < (m.pts.length:Int)
theorem Here.toNat {m:Mo} {l:List Int} (hh:Here m l) {k:Nat} (hk:k < l.length):(l[k]).toNat < m.pts.length:=by
 have:=hh _ (List.getElem_mem hk); omega
theorem Here.bins {m:Mo} {l:List Int} (hh:Here m l) {k:Nat} (hk:k < l.length):(m.pts[(l[k]).toNat]'(hh.toNat hk)).bins=G5 m l[k]:=by
 unfold G5; rw [List.getElem?_eq_getElem (hh.toNat hk)]
theorem Here.ix {m:Mo} {l:List Int} (hh:Here m l) {k:Nat} (hk:k < l.length) (h:Hp) (s:SM):KL 6 h (.sl s 6 (m.pts.map G9)) (.int .i64 l[k])=some (.fptr 6 (m.pts.map G9) (l[k]).toNat 0):=by
 have:=hh _ (List.getElem_mem hk)
 exact AUQ this.1 (by rw [List.length_map]; exact this.2)
theorem Here.ld {m:Mo} {l:List Int} (hh:Here m l) {k:Nat} (hk:k < l.length) (h:Hp) : ∃ s,D7 Tryz.prog h 54 (.fptr 6 (m.pts.map G9) (l[k]).toNat 5)=some (.sl s 4 ((G5 m l[k]).map JK)):=by
 rw [CP NW (hh.toNat hk),K3,hh.bins hk]
 exact ⟨_,rfl⟩
theorem U1 (h:Hp) (v:Int):FC Tryz.prog false h 57 1 [(0,.int .i64 v)]=some (.sl .full 1 [[.int .i64 v]],h):=by kernel_rfl
def EU (n:Nat):List AV := [.int .i64 (n:Int)]
theorem ANG:Frz EU:=fun _ _ _ _=>⟨rfl,rfl⟩
theorem SK (n:Nat):(EU n)[0]? = some (.int .i64 (n:Int)):=rfl
theorem encI0 (n:Int):(encI n)[0]? = some (.int .i64 n):=rfl
theorem AFR (m:Mo) (l:List Int) (k:Nat) (hk:k < l.length):szs m (l.take (k+1))=szs m (l.take k) ++ [(G5 m l[k]).length]:=by
 unfold szs; rw [List.take_succ_eq_append_getElem hk,List.map_append]; rfl
theorem UL (G:Nat→AV) (m:Mo) (c:Cr) (h:Hp) (hh:Here m c.pts) (hl:c.pts.length≤1048576):PCall (En G) 167 [.agg (DC m),.agg (GH c)] h (.sl (nm (szs m c.pts)) 1 ((szs m c.pts).map EU)):=by
 refine LA ANG ?_
 refine BX (H:=Hint.none) (enM G) Tryz.func167 rfl (by kernel_rfl) (by kernel_rfl) (Nat.le_of_ble_eq_true (by kernel_rfl)) ?_
 show awp _ _ _ _ _ (EJ _ [.tmp 4] _)
 simp -implicitDefEqProofs only [A8,BM,AX,AZ,AU,A9,AL,AO,AJ,BA,AR,AC,AA,AY,AQ,BD,EX,BB,A7,EW,BL,BG,C8,BO,AB,BC,BP,↓reduceIte,Nat.reduceEqDiff,Nat.zero_add,Option.getD_some,Bool.not_false,enP,GV,IU,bxM,bxC,CX KA,RP,List.length_map]
 have hb0:(h ++ [ABlk.live 2 [DC m]] ++ [ABlk.live 3 [GH c]])[h.length]? = some (.live 2 [DC m]):=C9 (CQ _ _)
 refine CS (fun n F H => ∃ k,n+k=c.pts.length∧F 2 = .ptr h.length 0 0∧F 9 = .sl c.pm 1 (c.pts.map encI)∧F 10 = .int .i64 c.pts.length∧F 11 = .int .i64 (k:Nat)∧H[h.length]? = some (.live 2 [DC m])∧ext h H∧(∀ b,isB (F 5) b→h.length < b)∧outG 1 EU h (szs m (c.pts.take k)) (F 5) H) c.pts.length ⟨0,by simp,by simp -implicitDefEqProofs only [AA,↓reduceIte,Nat.reduceEqDiff],by simp -implicitDefEqProofs only [AA,↓reduceIte,Nat.reduceEqDiff],by simp -implicitDefEqProofs only [AA,↓reduceIte,Nat.reduceEqDiff],by simp -implicitDefEqProofs only [AA,↓reduceIte]; rfl,hb0,((ext.rfl' h).app _).app _,fun b hb=>hb.elim,outG.nil _ _ _ _⟩ ?_
 rintro n F H ⟨k,hk,f2,f9,f10,f11,hb,he,hlt,ho⟩
 simp -implicitDefEqProofs only [A8,AX,BF,AZ,AU,A9,AL,AO,AJ,BA,AR,AC,AA,AY,BN,AB,CO,↓reduceIte,Option.getD_some,Bool.not_false,enP,f10,f11]
 refine CG (fun hc => ?_) (fun hc => ?_)
 ·have hk':k < c.pts.length:=by simpa using hc
  have lm:D7 Tryz.prog H 22 (.ptr h.length 0 0)=some (.sl m.pm 6 (m.pts.map G9)):=by rw [DX TW hb (row:=DC m) rfl,O7]
  obtain ⟨s,ls⟩:=hh.ld hk' H
  have hzl:(szs m (c.pts.take k)).length < 8388608:=by unfold szs; simp; omega
  obtain ⟨v',H',ha,ho',hkeep,he',hle,hb'⟩:=ho.append ML sz3 RV RF (by omega) hzl he (G5 m c.pts[k]).length
  simp -implicitDefEqProofs only [E8,FI,A8,BM,AX,BK,AZ,AU,A9,AL,AO,AJ,BA,AR,AC,AA,AY,BB,A7,EA,BL,BG,BU,C8,FT,BO,AB,↓reduceIte,Nat.reduceEqDiff,Nat.add_zero,Nat.zero_add,Option.getD_some,Bool.not_false,enP,MV,GZ,PI,HZ,IL,f2,f9,f11,CW hk',CP ag3 hk',encI0,lm,hh.ix hk',ls,List.length_map,U1]
  refine FK (v:=v') (h:=H') (by rw [show [[AV.int .i64 ((G5 m c.pts[k]).length:Int)]] = [EU (G5 m c.pts[k]).length] from rfl,ha]) ?_
  simp -implicitDefEqProofs only [AX,AZ,DU,DZ,AU,A9,AL,AO,AJ,BA,AR,AC,AA,AY,AQ,BD,BB,A7,BN,AB,CR,↓reduceIte,Nat.reduceEqDiff,Option.getD_some,Bool.not_false,enP,f11,CB (show k < 9223372036854775807 by omega)]
  refine ⟨n - 1,by omega,k+1,by omega,f2,f9,f10,rfl,hkeep _ _ hb (fun e=>by have:=hlt _ e; omega),he',fun b hbb => ?_,?_⟩
  ·have:=hb' b hbb; have:=CE hb; omega
  ·rw [AFR m c.pts k hk']; exact ho'
 ·have hk' : ¬ k < c.pts.length:=by simpa using hc
  rw [List.take_of_length_le (by omega)] at ho
  simp -implicitDefEqProofs only [A8,AX,BJ,CU,AZ,DR,EB,EF,CK,AU,A9,AL,AO,AJ,BA,AR,AC,AA,AY,BB,A7,↓reduceIte,Nat.reduceEqDiff,Option.getD_some,Bool.not_false]
  exact ⟨he,ho⟩

/-- the number of combinations -/
def FM (l:List Nat):Nat:=l.foldl (· * ·) 1
theorem MB (l:List Nat) (k:Nat) (hk:k < l.length):FM (l.take (k+1))=FM (l.take k) * l[k]:=by
 unfold FM; rw [List.take_succ_eq_append_getElem hk,List.foldl_append]; rfl
theorem ZR (l:List Nat) (k:Nat) (h : ∀ n∈l,n≤64) (hk:l.length≤k):FM l≤64 ^ k:=by
 have gen : ∀ (l:List Nat) (a:Nat) (j:Nat),(∀ n∈l,n≤64)→a≤64 ^ j→l.foldl (· * ·) a≤64 ^ (j+l.length):=by
  intro l
  induction l with
  | nil=>intro a j _ ha; exact ha
  | cons x l ih =>
    intro a j hl ha
    rw [List.foldl_cons,List.length_cons,show j+(l.length+1)=(j+1)+l.length by omega]
    refine ih _ _ (fun n hn=>hl n (by simp [hn])) ?_
    rw [Nat.pow_succ]
    exact Nat.mul_le_mul ha (hl x (by simp))
 have:=gen l 1 0 h (by simp)
 rw [Nat.zero_add] at this
 exact Nat.le_trans this (Nat.pow_le_pow_right (by omega) hk)
theorem ZQ (l:List Nat) (k:Nat) (h : ∀ n∈l,1≤n):FM (l.take k)≤FM l:=by
 have gen : ∀ (l:List Nat) (a:Nat),(∀ n∈l,1≤n)→a≤l.foldl (· * ·) a:=by
  intro l
  induction l with
  | nil=>intro a _; exact Nat.le_refl _
  | cons x l ih =>
    intro a hl
    rw [List.foldl_cons]
    refine Nat.le_trans ?_ (ih _ (fun n hn=>hl n (by simp [hn])))
    exact Nat.le_mul_of_pos_right a (hl x (by simp))
 have h2:FM l=(l.drop k).foldl (· * ·) (FM (l.take k)):=by
  unfold FM
  conv=>lhs; rw [← List.take_append_drop k l,List.foldl_append]
 rw [h2]
 exact gen _ _ (fun n hn=>h n (List.mem_of_mem_drop hn))
theorem Q3 (G:Nat→AV) (l:List Nat) (s:SM) (h:Hp) (hl : ∀ n∈l,n≤64) (hk:l.length≤4):PCall (En G) 180 [.sl s 1 (l.map EU)] h (.int .i64 (FM l)):=by
 refine BX (H:=Hint.none) (enM G) Tryz.func180 rfl (by kernel_rfl) (by kernel_rfl) (Nat.le_of_ble_eq_true (by kernel_rfl)) ?_
 show awp _ _ _ _ _ (EJ _ [.tmp 2] _)
 simp -implicitDefEqProofs only [A8,BM,AX,AZ,AU,A9,AL,AO,AJ,BA,AR,AC,AA,AY,AQ,BD,BB,A7,C8,AB,BC,↓reduceIte,Nat.reduceEqDiff,Option.getD_some,Bool.not_false,enP,GV,List.length_map]
 have hp : ∀ k,FM (l.take k)≤16777216:=fun k=>by
  have:=ZR (l.take k) 4 (fun n hn=>hl n (List.mem_of_mem_take hn)) (by rw [List.length_take]; omega)
  simpa using this
 refine CS (fun n F H => ∃ k,n+k=l.length∧F 3 = .int .i64 (FM (l.take k))∧F 6 = .sl s 1 (l.map EU)∧F 7 = .int .i64 l.length∧F 8 = .int .i64 (k:Nat)∧H=h) l.length ⟨0,by simp,by simp -implicitDefEqProofs only [AA,↓reduceIte,Nat.reduceEqDiff]; rfl,by simp -implicitDefEqProofs only [AA,↓reduceIte,Nat.reduceEqDiff],by simp -implicitDefEqProofs only [AA,↓reduceIte,Nat.reduceEqDiff],by simp -implicitDefEqProofs only [AA,↓reduceIte]; rfl,rfl⟩ ?_
 rintro n F H ⟨k,hk,f3,f6,f7,f8,rfl⟩
 simp -implicitDefEqProofs only [A8,AX,BF,AZ,AU,A9,AL,AO,AJ,BA,AR,AC,AA,AY,BN,AB,CO,↓reduceIte,Option.getD_some,Bool.not_false,enP,f7,f8]
 refine CG (fun hc => ?_) (fun hc => ?_)
 ·have hk':k < l.length:=by simpa using hc
  have h1:=hp (k+1)
  rw [MB l k hk'] at h1
  have hw:IntKind.i64.wrap ((FM (l.take k):Int) * (l[k]:Int))=((FM (l.take (k+1)):Nat):Int):=by
   rw [MB l k hk',← Int.natCast_mul,RY (by omega)]
  simp -implicitDefEqProofs only [A8,BM,AX,BK,AZ,DU,DZ,AU,A9,AL,AO,AJ,BA,AR,AC,AA,AY,AQ,BD,BB,A7,BL,BN,BU,AB,CR,TS,↓reduceIte,Nat.reduceEqDiff,Option.getD_some,Bool.not_false,enP,IL,f3,f6,f8,CW hk',CP ag3 hk',SK,hw,CB (show k < 9223372036854775807 by omega)]
  exact ⟨n - 1,by omega,k+1,by omega,rfl,trivial,f7,rfl,trivial⟩
 ·have hk' : ¬ k < l.length:=by simpa using hc
  rw [List.take_of_length_le (by omega)] at f3
  simp -implicitDefEqProofs only [A8,AX,BJ,CU,AZ,DR,EB,EF,CK,AU,A9,AL,AO,AJ,BA,AR,AC,AA,AY,BB,A7,↓reduceIte,Nat.reduceEqDiff,Option.getD_some,Bool.not_false,f3]
  exact ⟨trivial,trivial⟩
/-- a combination -/
def KM:List Nat→List Int→Bool
 | [],[]=>true
 | n :: ns,x :: xs=>decide (0≤x) && decide (x < (n:Int)) && KM ns xs
 | _,_=>false
theorem APS (ns:List Nat):KM ns []=(ns.length == 0):=by cases ns <;> rfl
theorem NP : ∀ {ns:List Nat} {xs:List Int},KM ns xs=true→ns.length=xs.length
 | [],[],_=>rfl
 | n :: ns,x :: xs,h=>by
   simp only [KM,Bool.and_eq_true] at h
   simp [NP h.2]
 | [],_ :: _,h=>by cases h
 | _ :: _,[],h=>by cases h
theorem AGR (G:Nat→AV) (ns:List Nat) (xs:List Int) (s t:SM) (h:Hp) (hn:ns.length≤1048576):PCall (En G) 182 [.sl s 1 (ns.map EU),.sl t 1 (xs.map encI)] h (.bool (KM ns xs)):=by
 refine BX (H:=Hint.none) (enM G) Tryz.func182 rfl (by kernel_rfl) (by kernel_rfl) (Nat.le_of_ble_eq_true (by kernel_rfl)) ?_
 show awp _ _ _ _ _ (EJ _ [.tmp 4] _)
 simp -implicitDefEqProofs only [A8,BM,AX,AZ,AU,A9,AL,AO,AJ,BA,AR,AC,AA,AY,AQ,BD,BI,BB,A7,C8,AB,BC,BP,↓reduceIte,Nat.reduceEqDiff,Option.getD_some,Bool.not_false,enP,GV,List.length_map]
 refine CS (fun n F H => ∃ k,n+k=xs.length∧k≤ns.length∧F 0 = .sl s 1 (ns.map EU)∧F 1 = .sl t 1 (xs.map encI)∧F 7 = .sl t 1 (xs.map encI)∧F 8 = .int .i64 xs.length∧F 9 = .int .i64 (k:Nat)∧H=h∧KM ns xs=KM (ns.drop k) (xs.drop k)) xs.length ⟨0,by simp,by simp,by simp -implicitDefEqProofs only [AA,BC,↓reduceIte,Nat.reduceEqDiff],by simp -implicitDefEqProofs only [AA,BC,BP,↓reduceIte,Nat.reduceEqDiff],by simp -implicitDefEqProofs only [AA,↓reduceIte,Nat.reduceEqDiff],by simp -implicitDefEqProofs only [AA,↓reduceIte,Nat.reduceEqDiff],by simp -implicitDefEqProofs only [AA,↓reduceIte]; rfl,rfl,rfl⟩ ?_
 rintro n F H ⟨k,hk,hkn,f0,f1,f7,f8,f9,rfl,hi⟩
 simp -implicitDefEqProofs only [A8,AX,BF,AZ,AU,A9,AL,AO,AJ,BA,AR,AC,AA,AY,BN,AB,CO,↓reduceIte,Option.getD_some,Bool.not_false,enP,f8,f9]
 refine CG (fun hc => ?_) (fun hc => ?_)
 ·have hk':k < xs.length:=by simpa using hc
  rw [List.drop_eq_getElem_cons hk'] at hi
  simp -implicitDefEqProofs only [A8,BM,AX,BK,AZ,AU,A9,BH,BQ,BZ,AL,AO,AJ,BA,AR,AC,AA,AY,BB,A7,BL,BN,BU,C8,AB,F3,↓reduceIte,Nat.reduceEqDiff,Option.getD_some,Bool.not_false,enP,IL,GV,f0,f7,f9,CW hk',CP ag3 hk',encI0,List.length_map]
  refine GJ (fun ha => ?_) (fun ha => ?_)
  ·simp -implicitDefEqProofs only [A8,AX,BJ,BF,AZ,CJ,D6,EZ,CK,DI,AU,A9,BH,BQ,BZ,FN,AL,AO,AJ,BA,AR,AC,AA,EM,AY,AQ,BI,BB,A7,CF,DJ,↓reduceIte,Nat.reduceEqDiff,Option.getD_some,Bool.not_false,ha]
   have:ns.length≤k:=by simp at ha; omega
   rw [List.drop_eq_nil_of_le this] at hi
   exact ⟨by rw [hi]; rfl,trivial⟩
  have hkn':k < ns.length:=by simp at ha; omega
  rw [List.drop_eq_getElem_cons hkn'] at hi
  simp -implicitDefEqProofs only [AU,BH,BQ,BZ,EH,AL,AO,AJ,BA,AR,AC,AA,AY,AQ,BD,BI,BB,CF,DK,BN,AB,CO,↓reduceIte,Nat.reduceEqDiff,Option.getD_some,Bool.not_false,enP,ha]
  refine GJ (fun hb => ?_) (fun hb => ?_)
  ·simp -implicitDefEqProofs only [A8,AX,BJ,BF,AZ,CJ,D6,EZ,CK,DI,AU,A9,BH,BQ,BZ,FN,AL,AO,AJ,BA,AR,AC,AA,EM,AY,AQ,BI,A7,CF,DJ,↓reduceIte,Nat.reduceEqDiff,Option.getD_some,Bool.not_false,hb]
   have:decide (0≤xs[k])=false:=by simp at hb ⊢; omega
   exact ⟨by rw [hi]; unfold KM; rw [this]; rfl,trivial⟩
  have h0:decide (0≤xs[k])=true:=by simp at hb ⊢; omega
  simp -implicitDefEqProofs only [BF,AZ,AU,A9,BH,BQ,BZ,EH,AL,AO,AJ,BA,AR,AC,AA,AY,AQ,BI,BB,CF,DK,BL,BN,BU,AB,F3,↓reduceIte,Nat.reduceEqDiff,Option.getD_some,Bool.not_false,enP,IL,hb,f0,CW hkn',CP ag3 hkn',SK]
  refine CG (fun hd => ?_) (fun hd => ?_)
  ·simp -implicitDefEqProofs only [A8,AX,BJ,AZ,CJ,D6,EZ,CK,AU,A9,AL,AO,AJ,BA,AR,AC,AA,AQ,BI,A7,↓reduceIte,Option.getD_some,Bool.not_false]
   have:decide (xs[k] < (ns[k]:Int))=false:=by simp at hd ⊢; omega
   exact ⟨by rw [hi]; unfold KM; rw [this,h0]; rfl,trivial⟩
  have h1:decide (xs[k] < (ns[k]:Int))=true:=by simp at hd ⊢; omega
  simp -implicitDefEqProofs only [AX,BK,AZ,DU,DZ,AU,A9,AL,AO,AJ,BA,AR,AC,AA,AY,AQ,BD,BB,BN,AB,CR,↓reduceIte,Nat.reduceEqDiff,Option.getD_some,Bool.not_false,enP,f9,CB (show k < 9223372036854775807 by omega)]
  refine ⟨n - 1,by omega,k+1,by omega,by omega,f0,f1,f7,f8,rfl,trivial,?_⟩
  rw [hi]
  conv=>lhs; unfold KM
  rw [h0,h1]; rfl
 ·have hk' : ¬ k < xs.length:=by simpa using hc
  simp -implicitDefEqProofs only [A8,AX,BJ,CU,AZ,DR,EB,EF,CK,AU,A9,AL,AO,AJ,BA,AR,AC,AA,AY,BB,A7,BN,C8,AB,D9,↓reduceIte,Nat.reduceEqDiff,Option.getD_some,Bool.not_false,enP,GV,f0,f1,List.length_map]
  refine ⟨?_,trivial⟩
  rw [hi,List.drop_eq_nil_of_le (show xs.length≤k by omega),APS,List.length_drop]
  congr 1
  rw [Bool.eq_iff_iff]; simp; omega
end Go.Proofs.YtocilianjfhifaaGreatDoor.Cov
/- The error of a cross: the program; no condition but the variables that are laid and the bounds on lengths. -/
set_option linter.unusedSimpArgs false
set_option maxRecDepth 8000
namespace Go.Proofs.YtocilianjfhifaaGreatDoor.Cov
open Go Go.Proofs Go.Proofs.YtocilianjfhifaaGreatDoor.Sm Go.Proofs.YtocilianjfhifaaGreatDoor.Bins Go.RowKit

theorem AGV (G:Nat→AV) (xs:List Is) (m:SM) (fid:FuncId) (caps:List AV) (p:Is→Bool) (h:Hp) (hl:xs.length≤1099511627776)
  (hf : ∀ r,PCall (En G) fid (.sl r.m 1 (r.l.map encI) :: caps) h (.bool (p r))) :
  PCall (En G) 183 [.sl m 1 (xs.map GG),.fn (.func fid) [] caps] h (.int .i64 (match xs.findIdx? p with | some i=>(i:Int) | none => -1)):=by
 refine BX (H:=Hint.none) (enM G) Tryz.func183 rfl (by kernel_rfl) (by kernel_rfl) (Nat.le_of_ble_eq_true (by kernel_rfl)) ?_
 show awp _ _ _ _ _ (EJ _ [.tmp 4] _)
 simp -implicitDefEqProofs only [A8,BM,AX,AZ,AU,A9,AL,AO,AJ,BA,AR,AC,AA,AY,AQ,BD,BB,A7,C8,AB,BC,↓reduceIte,Nat.reduceEqDiff,Option.getD_some,Bool.not_false,enP,WM,List.length_map]
 refine CS (fun n F H => ∃ k,n+k=xs.length∧F 0 = .sl m 1 (xs.map GG)∧F 1 = .fn (.func fid) [] caps∧F 7 = .int .i64 xs.length∧F 8 = .int .i64 (k:Nat)∧H=h∧(xs.take k).all (fun r => !p r)=true) xs.length ⟨0,by simp,rfl,rfl,rfl,rfl,rfl,rfl⟩ ?_
 rintro n F H ⟨k,hk,f0,f1,f7,f8,rfl,hin⟩
 simp -implicitDefEqProofs only [A8,AX,BF,AZ,AU,A9,AL,AO,AJ,BA,AR,AC,AA,AY,BN,AB,CO,↓reduceIte,Option.getD_some,Bool.not_false,enP,f0,f1,f7,f8,List.length_map]
 refine CG (fun hc => ?_) (fun hc => ?_)
 ·have hc':k < xs.length:=by simpa using hc
  simp -implicitDefEqProofs only [A8,BM,AX,BK,AZ,AU,A9,AL,AO,AJ,BA,AR,AC,AA,AY,BB,A7,BL,BU,BV,BR,AB,List.map_cons,List.map_nil,List.nil_append,List.cons_append,↓reduceIte,Nat.reduceEqDiff,Option.getD_some,Bool.not_false,enP,PK,f0,f1,f7,f8,CW hc',CP KA hc',LH]
  refine (hf _).use ?_
  simp -implicitDefEqProofs only [BF,AZ,A9,AC,AA,AY,↓reduceIte]
  refine CG (fun hb => ?_) (fun hb => ?_)
  ·simp -implicitDefEqProofs only [A8,AX,BJ,AZ,CJ,D6,EZ,CK,AU,A9,AL,AO,AJ,BA,AR,AC,AA,AY,BB,A7,↓reduceIte,Nat.reduceEqDiff,Option.getD_some,Bool.not_false]
   refine ⟨?_,trivial⟩
   rw [List.findIdx?_eq_some_iff_getElem.2 ⟨hc',hb,fun j hj=>by
    rw [List.all_eq_true] at hin
    have:=hin xs[j] (by rw [List.mem_take_iff_getElem]; exact ⟨j,by omega,rfl⟩)
    simpa using this⟩]
  ·simp -implicitDefEqProofs only [AX,BK,AZ,DU,DZ,AU,A9,AL,AO,AJ,BA,AR,AC,AA,AY,AQ,BD,BB,BN,AB,CR,↓reduceIte,Nat.reduceEqDiff,Option.getD_some,Bool.not_false,enP,f8,CB (show k < 9223372036854775807 by omega)]
   refine ⟨n - 1,by omega,k+1,by omega,f0,f1,f7,rfl,trivial,?_⟩
   rw [List.take_succ_eq_append_getElem hc',List.all_append,hin]
   simp only [List.all_cons,List.all_nil,hb]; rfl
 ·have hc' : ¬ k < xs.length:=by simpa using hc
  simp -implicitDefEqProofs only [A8,AX,BJ,CU,AZ,DR,EB,EF,CK,AU,A9,AL,AO,AJ,BA,AR,AC,AA,AQ,BD,A7,↓reduceIte,Option.getD_some,Bool.not_false]
  refine ⟨?_,trivial⟩
  rw [List.take_of_length_le (by omega)] at hin
  rw [List.findIdx?_eq_none_iff.2 (by simpa using hin)]

theorem O9 (G:Nat→AV) (xs:List Is) (m:SM) (fid:FuncId) (caps:List AV) (p:Is→Bool) (h:Hp) (hl:xs.length≤1099511627776)
  (hf : ∀ r,PCall (En G) fid (.sl r.m 1 (r.l.map encI) :: caps) h (.bool (p r))) :
  PCall (En G) 133 [.sl m 1 (xs.map GG),.fn (.func fid) [] caps] h (.bool (xs.any p)):=by
 refine BX (H:=Hint.none) (enM G) Tryz.func133 rfl (by kernel_rfl) (by kernel_rfl) (Nat.le_of_ble_eq_true (by kernel_rfl)) ?_
 show awp _ _ _ _ _ (EJ _ [.tmp 4] _)
 simp -implicitDefEqProofs only [A8,AX,AZ,AU,A9,AL,AO,AJ,BA,AR,AC,AA,AY,AQ,BS,BI,BB,A7,BV,BR,BC,BP,List.map_cons,List.map_nil,List.append_nil,↓reduceIte,Nat.reduceEqDiff,Option.getD_some,Bool.not_false,enP]
 refine (AGV G xs m fid caps p h hl hf).use ?_
 simp -implicitDefEqProofs only [BJ,AZ,CK,AU,A9,AL,AO,AJ,BA,AR,AC,AA,AY,AQ,BD,A7,BN,AB,F3,↓reduceIte,Option.getD_some,Bool.not_false,enP]
 refine ⟨?_,trivial⟩
 cases hx:xs.findIdx? p with
 | some i =>
   obtain ⟨h1,h2,_⟩:=List.findIdx?_eq_some_iff_getElem.1 hx
   have:xs.any p=true:=List.any_eq_true.2 ⟨xs[i],by simp,h2⟩
   simp [this]
 | none =>
   have:xs.any p=false:=by
    rw [List.findIdx?_eq_none_iff] at hx
    rw [List.any_eq_false]; intro x hx2; simp [hx x hx2]
   simp [this]
theorem AD9 (G:Nat→AV) (ns:List Nat) (s:SM) (b:Nat) (r:Is) (h:Hp) (hb:h[b]? = some (.live 1 [[.sl s 1 (ns.map EU)]])) (hn:ns.length≤1048576) :
  PCall (En G) 181 [.sl r.m 1 (r.l.map encI),.ptr b 0 0] h (.bool (!KM ns r.l)):=by
 refine BX (H:=Hint.none) (enM G) Tryz.func181 rfl (by kernel_rfl) (by kernel_rfl) (Nat.le_of_ble_eq_true (by kernel_rfl)) ?_
 show awp _ _ _ _ _ (EJ _ [.tmp 3] _)
 simp -implicitDefEqProofs only [A8,AX,AZ,AU,A9,AL,AO,AJ,BA,AR,AC,AA,AY,AQ,BS,BI,BB,A7,BL,BV,BR,AB,BC,BP,List.map_cons,List.map_nil,List.append_nil,↓reduceIte,Nat.reduceEqDiff,Option.getD_some,Bool.not_false,enP,KG KA hb]
 refine (AGR G ns r.l s r.m h hn).use ?_
 simp -implicitDefEqProofs only [BJ,AZ,CK,AU,A9,AL,AO,AJ,BA,AR,AC,AA,AY,A7,F9,AB,ER,↓reduceIte,Option.getD_some,Bool.not_false]
 exact ⟨trivial,trivial⟩
/-- points in order -/
def SF (n:Nat):Option Int→List Int→Bool
 | _,[]=>true
 | o,p :: ps=>(decide (0≤p) && decide (p < (n:Int)) && (match o with | some q=>decide (q < p) | none=>true)) && SF n (some p) ps
def prev (l:List Int) (k:Nat):Option Int:=match k with
 | 0=>none
 | k+1=>l[k]?
theorem ACX (n:Nat) (l:List Int) (k:Nat) (hk:k < l.length):SF n (prev l k) (l.drop k)=((decide (0≤l[k]) && decide (l[k] < (n:Int)) && (match prev l k with | some q=>decide (q < l[k]) | none=>true)) && SF n (prev l (k+1)) (l.drop (k+1))):=by
 rw [List.drop_eq_getElem_cons hk]
 have:prev l (k+1)=some l[k]:=by unfold prev; exact List.getElem?_eq_getElem hk
 rw [this]; rfl
theorem TM {m:Mo} : ∀ {l:List Int} {o:Option Int},SF m.pts.length o l=true→Here m l
 | [],_,_=>fun p hp=>by cases hp
 | x :: l,o,h=>by
   simp only [SF,Bool.and_eq_true,decide_eq_true_eq] at h
   intro p hp
   cases List.mem_cons.1 hp with
   | inl e=>subst e; exact ⟨h.1.1.1,h.1.1.2⟩
   | inr e=>exact TM h.2 p e
def GL (m:Mo) (c:Cr):Int :=
 if GA c.name=false then 7 else if c.pts.length < 2∨4 < c.pts.length then 1 else if SF m.pts.length none c.pts=false then 1 else
  if 256 < FM (szs m c.pts)∨256 < c.excl.length then 2 else if (c.excl.any fun x => !KM (szs m c.pts) x.l) then 1 else 0
structure CrOk (c:Cr):Prop where
 name:c.name.size≤1048576
 pts:c.pts.length≤1048576
 excl:c.excl.length≤1048576
 each : ∀ x∈c.excl,x.l.length≤1048576
/-- points that have bins -/
def Full (m:Mo):Prop := ∀ p∈m.pts,1≤p.bins.length∧p.bins.length≤64
theorem Full.szs {m:Mo} {l:List Int} (hf:Full m) (hh:Here m l) : ∀ n∈szs m l,1≤n∧n≤64:=by
 intro n hn
 obtain ⟨p,hp,rfl⟩:=List.mem_map.1 hn
 obtain ⟨h0,h1⟩:=hh p hp
 have hlt:p.toNat < m.pts.length:=by omega
 have:G5 m p=(m.pts[p.toNat]).bins:=by unfold G5; rw [List.getElem?_eq_getElem hlt]
 rw [this]
 exact hf _ (List.getElem_mem hlt)
theorem al56 (h:Hp):JN Tryz.prog h 57=some (.ptr h.length 0 0,h ++ [.live 1 [[.sl .nil 0 []]]]):=JC (row := [.sl .nil 0 []]) (by kernel_rfl)
theorem ldM {h:Hp} {b:Nat} {m:Mo} (hb:h[b]? = some (.live 2 [DC m])):D7 Tryz.prog h 25 (.ptr b 0 0)=some (.agg (DC m)):=by
 rw [IK AWU ARW hb rfl (by rw [AHL]; exact Nat.le_refl 2)]; rfl
theorem ldC {h:Hp} {b:Nat} {c:Cr} (hb:h[b]? = some (.live 3 [GH c])):D7 Tryz.prog h 71 (.ptr b 0 0)=some (.agg (GH c)):=by
 rw [IK ABC WE hb rfl (by rw [JR]; exact Nat.le_refl 3)]; rfl
theorem AJS (G:Nat→AV) (hG:GOk G) (m:Mo) (c:Cr) (hc:CrOk c) (hf:Full m) (h:Hp):PCall (En G) 130 [.agg (DC m),.agg (GH c)] h (.int .i64 (GL m c)):=by
 refine ACalls.pure0 rfl ?_
 have hc1:=hc.name
 have hc2:=hc.pts
 have hc3:=hc.excl
 refine BX (H:=Hint.none) (enM G) Tryz.func130 rfl (by kernel_rfl) (by kernel_rfl) (Nat.le_of_ble_eq_true (by kernel_rfl)) ?_
 show awp _ _ _ _ _ (EJ _ [.tmp 4] _)
 have gm:(h ++ [ABlk.live 2 [DC m]] ++ [ABlk.live 3 [GH c]])[h.length]? = some (.live 2 [DC m]):=C9 (CQ _ _)
 have gc:(h ++ [ABlk.live 2 [DC m]] ++ [ABlk.live 3 [GH c]])[(h ++ [ABlk.live 2 [DC m]]).length]? = some (.live 3 [GH c]):=CQ _ _
 have hx : ∃ x,h ++ [ABlk.live 2 [DC m]] ++ [ABlk.live 3 [GH c]]=h ++ x:=⟨_,List.append_assoc _ _ _⟩
 have hlt:h.length < (h ++ [ABlk.live 2 [DC m]]).length:=by simp
 simp -implicitDefEqProofs only [A8,AX,AZ,AU,A9,AL,AO,AJ,BA,AR,AC,AA,AY,AQ,BD,A7,EW,BL,BG,BO,AB,BC,BP,↓reduceIte,Nat.reduceEqDiff,Nat.add_zero,Option.getD_some,Bool.not_false,enP,AEO,bxM,bxC]
 generalize h ++ [ABlk.live 2 [DC m]] ++ [ABlk.live 3 [GH c]]=H at gm gc hx ⊢
 generalize (h ++ [ABlk.live 2 [DC m]]).length=cb at gc hlt ⊢
 have lm:D7 Tryz.prog H 22 (.ptr h.length 0 0)=some (.sl m.pm 6 (m.pts.map G9)):=by rw [DX TW gm (row:=DC m) rfl,O7]
 have lc0:D7 Tryz.prog H 9 (.ptr cb 0 0)=some (.str c.name):=by rw [DX ag9 gc (row:=GH c) rfl,AL1]
 have lc1:D7 Tryz.prog H 57 (.ptr cb 0 1)=some (.sl c.pm 1 (c.pts.map encI)):=by rw [DX KA gc (row:=GH c) rfl,RP]
 have lc2:D7 Tryz.prog H 26 (.ptr cb 0 2)=some (.sl c.xm 1 (c.excl.map GG)):=by rw [DX QR gc (row:=GH c) rfl,AHN]
 simp -implicitDefEqProofs only [AU,AL,AO,AJ,BA,AR,AC,AA,AY,BS,BV,BR,AB,List.map_cons,List.map_nil,List.append_nil,↓reduceIte,Option.getD_some,Bool.not_false,lc0]
 refine (MH G hG.kw c.name _ (by omega)).use ?_
 simp -implicitDefEqProofs only [BF,AZ,AU,A9,AL,AO,AJ,BA,AR,AC,AA,AY,F9,AB,ER,↓reduceIte,Option.getD_some,Bool.not_false]
 cases h1:GA c.name
 ·simp -implicitDefEqProofs only [A8,AX,BJ,AZ,CJ,CK,DI,AU,A9,AL,AO,AJ,BA,AR,AC,AA,AQ,BD,A7,↓reduceIte,Option.getD_some,Bool.not_false]
  exact ⟨by unfold GL; rw [if_pos h1],hx⟩
 have h1' : ¬ GA c.name=false:=by rw [h1]; decide
 simp -implicitDefEqProofs only [A8,AX,BK,AZ,DL,AU,BH,BQ,BZ,AL,AO,AJ,BA,AR,AC,AA,AY,AQ,BD,BB,BL,BN,BG,C8,AB,CO,↓reduceIte,Nat.reduceEqDiff,Nat.zero_add,Option.getD_some,Bool.not_true,Bool.not_false,enP,GV,IU,lc1,List.length_map]
 refine GJ (fun h2 => ?_) (fun h2 => ?_)
 ·simp -implicitDefEqProofs only [A8,AX,BJ,BF,AZ,CJ,CK,DI,AU,A9,BH,BQ,BZ,FN,AL,AO,AJ,BA,AR,AC,AA,EM,AY,AQ,BD,BI,A7,CF,DJ,↓reduceIte,Nat.reduceEqDiff,Option.getD_some,Bool.not_false,h2]
  exact ⟨by unfold GL; rw [if_neg h1',if_pos (.inl (by simp at h2; omega))],hx⟩
 simp -implicitDefEqProofs only [BF,AZ,AU,A9,BH,BQ,BZ,EH,AL,AO,AJ,BA,AR,AC,AA,AY,AQ,BD,BI,CF,DK,BL,BN,BG,C8,AB,EK,↓reduceIte,Nat.reduceEqDiff,Nat.zero_add,Option.getD_some,Bool.not_false,enP,GV,IU,h2,lc1,List.length_map]
 refine CG (fun h3 => ?_) (fun h3 => ?_)
 ·simp -implicitDefEqProofs only [A8,AX,BJ,AZ,CJ,CK,AU,A9,AL,AO,AJ,BA,AR,AC,AA,AQ,BD,A7,↓reduceIte,Option.getD_some,Bool.not_false]
  exact ⟨by unfold GL; rw [if_neg h1',if_pos (.inr (by simp at h3; omega))],hx⟩
 have h23 : ¬ (c.pts.length < 2∨4 < c.pts.length):=by simp at h2 h3; omega
 simp -implicitDefEqProofs only [A8,BM,AX,BK,AZ,AU,A9,AL,AO,AJ,BA,AR,AC,AA,AY,AQ,BD,BB,BL,BG,C8,AB,↓reduceIte,Nat.reduceEqDiff,Nat.zero_add,Option.getD_some,Bool.not_false,enP,GV,IU,lc1,List.length_map]
 refine FO 0 (fun F H'=>F 2 = .ptr h.length 0 0∧F 3 = .ptr cb 0 0∧H'=H∧SF m.pts.length none c.pts=true) (fun F H'=>F 4 = .int .i64 1∧H'=H∧SF m.pts.length none c.pts=false) ?_ ?_ ?_
 ·refine CS (fun n F H' => ∃ k,n+k=c.pts.length∧F 2 = .ptr h.length 0 0∧F 3 = .ptr cb 0 0∧F 23 = .sl c.pm 1 (c.pts.map encI)∧F 24 = .int .i64 c.pts.length∧F 25 = .int .i64 (k:Nat)∧H'=H∧SF m.pts.length none c.pts=SF m.pts.length (prev c.pts k) (c.pts.drop k)) c.pts.length ⟨0,by simp,by simp -implicitDefEqProofs only [AA,↓reduceIte,Nat.reduceEqDiff],by simp -implicitDefEqProofs only [AA,↓reduceIte,Nat.reduceEqDiff],by simp -implicitDefEqProofs only [AA,↓reduceIte,Nat.reduceEqDiff],by simp -implicitDefEqProofs only [AA,↓reduceIte,Nat.reduceEqDiff],by simp -implicitDefEqProofs only [AA,↓reduceIte]; rfl,rfl,rfl⟩ ?_
  rintro n F H' ⟨k,hk,f2,f3,f23,f24,f25,rfl,hi⟩
  simp -implicitDefEqProofs only [A8,AX,BF,AZ,AU,A9,AL,AO,AJ,BA,AR,AC,AA,AY,BN,AB,CO,↓reduceIte,Option.getD_some,Bool.not_false,enP,f24,f25]
  refine CG (fun hlt => ?_) (fun hlt => ?_)
  ·have hk':k < c.pts.length:=by simpa using hlt
   rw [ACX _ _ _ hk'] at hi
   simp -implicitDefEqProofs only [A8,BM,AX,BK,AZ,AU,A9,BH,BQ,BZ,AL,AO,AJ,BA,AR,AC,AA,AY,AQ,BD,BB,A7,BL,BN,BU,AB,CO,↓reduceIte,Nat.reduceEqDiff,Option.getD_some,Bool.not_false,enP,IL,f2,f3,f23,f25,CW hk',CP ag3 hk',encI0]
   refine GJ (fun ha => ?_) (fun ha => ?_)
   ·simp -implicitDefEqProofs only [A8,AX,BJ,BF,AZ,CJ,D6,KC,EZ,DI,AU,A9,BH,BQ,BZ,FN,PE,AL,AO,AJ,BA,AR,AC,AA,EM,AY,AQ,BD,BI,BB,A7,CF,DJ,↓reduceIte,Nat.reduceEqDiff,Option.getD_some,Bool.not_false,ha]
    have:decide (0≤c.pts[k])=false:=by simp at ha ⊢; omega
    exact ⟨trivial,trivial,by rw [hi,this]; rfl⟩
   have ha':decide (0≤c.pts[k])=true:=by simp at ha ⊢; omega
   simp -implicitDefEqProofs only [AU,BH,BQ,BZ,EH,AL,AO,AJ,BA,AR,AC,AA,AY,AQ,BI,BB,CF,DK,BL,BN,BG,C8,AB,F3,↓reduceIte,Nat.reduceEqDiff,Nat.add_zero,Option.getD_some,Bool.not_false,enP,OZ,GZ,ha,f2,lm,List.length_map]
   refine GJ (fun hb => ?_) (fun hb => ?_)
   ·simp -implicitDefEqProofs only [A8,AX,BJ,BF,AZ,CJ,D6,KC,EZ,DI,AU,A9,BH,BQ,BZ,FN,PE,AL,AO,AJ,BA,AR,AC,AA,EM,AY,AQ,BD,BI,A7,CF,DJ,↓reduceIte,Nat.reduceEqDiff,Option.getD_some,Bool.not_false,hb]
    have:decide (c.pts[k] < (m.pts.length:Int))=false:=by simp at hb ⊢; omega
    exact ⟨trivial,trivial,by rw [hi,this,ha']; rfl⟩
   have hb':decide (c.pts[k] < (m.pts.length:Int))=true:=by simp at hb ⊢; omega
   rw [ha',hb'] at hi
   simp only [Bool.true_and] at hi
   cases k with
   | zero =>
     have hz:decide ((((0:Nat):Int)) > 0)=false:=by decide
     simp -implicitDefEqProofs only [AX,BK,BF,AZ,DU,DZ,DL,AU,A9,BH,BQ,BZ,EH,IQ,AL,AO,AJ,BA,AR,AC,AA,EM,AY,AQ,BD,BI,BB,CF,DK,BN,AB,CR,EK,↓reduceIte,Nat.reduceEqDiff,Nat.zero_add,Option.getD_some,Bool.not_false,enP,hb,hz,f25,CB (show 0 < 9223372036854775807 by omega)]
     exact ⟨n - 1,by omega,1,by omega,f2,f3,f23,f24,rfl,trivial,by rw [hi]; rfl⟩
   | succ k =>
     have hz:decide ((((k+1:Nat):Int)) > 0)=true:=by simp
     have hw:IntKind.i64.wrap (((k+1:Nat):Int) - 1)=(k:Int):=by rw [wrap_i64 (by omega) (by omega)]; omega
     have hk2:k < c.pts.length:=by omega
     have hpv:prev c.pts (k+1)=some c.pts[k]:=by unfold prev; exact List.getElem?_eq_getElem hk2
     rw [hpv] at hi
     simp -implicitDefEqProofs only [BF,AZ,AU,A9,BH,BQ,BZ,FZ,EH,AL,AO,AJ,BA,AR,AC,AA,AY,AQ,BD,BI,BB,CF,DJ,DK,BL,BN,BG,BU,AB,J8,J9,EK,↓reduceIte,Nat.reduceEqDiff,Nat.zero_add,Option.getD_some,Bool.not_false,enP,IL,IU,hb,hz,f3,lc1,hw,CW hk2,CP ag3 hk2,encI0]
     refine CG (fun hd => ?_) (fun hd => ?_)
     ·simp -implicitDefEqProofs only [A8,AX,BJ,AZ,CJ,D6,KC,EZ,AU,A9,AL,AO,AJ,BA,AR,AC,AA,AQ,BD,A7,↓reduceIte,Option.getD_some,Bool.not_false]
      have:decide (c.pts[k] < c.pts[k+1])=false:=by simp at hd ⊢; omega
      exact ⟨trivial,trivial,by rw [hi]; simp only [this]; rfl⟩
     ·simp -implicitDefEqProofs only [AX,BK,AZ,DU,DZ,AU,A9,AL,AO,AJ,BA,AR,AC,AA,AY,AQ,BD,BB,BN,AB,CR,↓reduceIte,Nat.reduceEqDiff,Option.getD_some,Bool.not_false,enP,f25,CB (show k+1 < 9223372036854775807 by omega)]
      have:decide (c.pts[k] < c.pts[k+1])=true:=by simp at hd ⊢; omega
      exact ⟨n - 1,by omega,k+1+1,by omega,f2,f3,f23,f24,rfl,trivial,by rw [hi]; simp only [this]; rfl⟩
  ·have hk' : ¬ k < c.pts.length:=by simpa using hlt
   simp -implicitDefEqProofs only [CU,DR,II,EF,AA,↓reduceIte,Nat.reduceEqDiff]
   exact ⟨f2,f3,trivial,by rw [hi,List.drop_eq_nil_of_le (by omega)]; rfl⟩
 ·rintro F H' ⟨f2,f3,rfl,hi⟩
  have hh:=TM hi
  have hi' : ¬ SF m.pts.length none c.pts=false:=by rw [hi]; decide
  simp -implicitDefEqProofs only [A8,AX,AZ,EB,AU,AL,AO,AJ,BA,AR,AC,AA,AY,BS,BL,BV,BR,AB,List.map_cons,List.map_nil,List.append_nil,↓reduceIte,Nat.reduceEqDiff,Option.getD_some,Bool.not_false,enP,f2,f3,ldM gm,ldC gc]
  refine (UL G m c _ hh (by omega)).use ?_
  have hsz:(szs m c.pts).length≤4:=by unfold szs; simp; omega
  have hst:=TH (t:=57) (v := .sl .nil 0 []) (u := .sl (nm (szs m c.pts)) 1 ((szs m c.pts).map EU)) ABO (AYU _ _ _) (CQ H' (.live 1 [[.sl .nil 0 []]]))
  rw [YH] at hst
  simp -implicitDefEqProofs only [A8,BM,AX,AZ,AU,A9,AL,AO,AJ,BA,AR,AC,EQ,AA,AY,BS,FL,BL,EC,BV,BR,BO,AB,DF,List.map_cons,List.map_nil,List.append_nil,↓reduceIte,Nat.reduceEqDiff,Option.getD_some,Bool.not_false,enP,Option.getD_none,al56,hst,KG KA (CQ H' _)]
  refine (Q3 G _ _ _ (fun n hn=>(hf.szs hh n hn).2) hsz).use ?_
  have hx2 : ∃ x,H' ++ [ABlk.live 1 [[AV.sl (nm (szs m c.pts)) 1 ((szs m c.pts).map EU)]]]=h ++ x:=by
   obtain ⟨x,hx⟩:=hx
   exact ⟨x ++ _,by rw [hx,List.append_assoc]⟩
  have lc2' : ∀ x,D7 Tryz.prog (H' ++ [x]) 26 (.ptr cb 0 2)=some (.sl c.xm 1 (c.excl.map GG)):=fun x=>by rw [DX QR (C9 gc) (row:=GH c) rfl,AHN]
  simp -implicitDefEqProofs only [AU,BH,BQ,BZ,AL,AO,AJ,BA,AR,AC,AA,AY,AQ,BD,BB,BN,AB,EK,↓reduceIte,Option.getD_some,Bool.not_false,enP]
  refine GJ (fun ha => ?_) (fun ha => ?_)
  ·simp -implicitDefEqProofs only [A8,AX,BJ,BF,AZ,CJ,D6,CK,DI,AU,A9,BH,BQ,BZ,FN,AL,AO,AJ,BA,AR,AC,AA,EM,AY,AQ,BD,BI,A7,CF,DJ,↓reduceIte,Nat.reduceEqDiff,Option.getD_some,Bool.not_false,ha]
   exact ⟨by unfold GL; rw [if_neg h1',if_neg h23,if_neg hi',if_pos (.inl (by simp at ha; omega))],hx2⟩
  simp -implicitDefEqProofs only [BF,AZ,AU,A9,BH,BQ,BZ,EH,AL,AO,AJ,BA,AR,AC,AA,AY,AQ,BD,BI,A7,CF,DK,BL,BN,BG,C8,AB,EK,↓reduceIte,Nat.reduceEqDiff,Nat.zero_add,Option.getD_some,Bool.not_false,enP,WM,NU,ha,f3,lc2',List.length_map]
  refine CG (fun hb => ?_) (fun hb => ?_)
  ·simp -implicitDefEqProofs only [A8,AX,BJ,AZ,CJ,D6,CK,AU,A9,AL,AO,AJ,BA,AR,AC,AA,AQ,BD,A7,↓reduceIte,Option.getD_some,Bool.not_false]
   exact ⟨by unfold GL; rw [if_neg h1',if_neg h23,if_neg hi',if_pos (.inr (by simp at hb; omega))],hx2⟩
  have hab : ¬ (256 < FM (szs m c.pts)∨256 < c.excl.length):=by simp at ha hb; omega
  simp -implicitDefEqProofs only [A8,AX,AU,AL,AO,AJ,BA,AR,AC,AA,AY,BS,BL,KO,BG,BV,BR,AB,List.map_cons,List.map_nil,List.append_nil,↓reduceIte,Nat.reduceEqDiff,Nat.zero_add,Option.getD_some,Bool.not_false,enP,NU,f3,lc2']
  refine (O9 G c.excl c.xm 181 _ (fun x => !KM (szs m c.pts) x.l) _ (by omega) fun r=>AD9 G _ _ _ r _ (CQ H' _) (by omega)).use ?_
  simp -implicitDefEqProofs only [BF,AZ,AU,A9,AL,AO,AJ,BA,AR,AC,AA,AY,A7,↓reduceIte,Option.getD_some,Bool.not_false]
  cases he:c.excl.any fun x => !KM (szs m c.pts) x.l
  ·simp -implicitDefEqProofs only [A8,AX,BK,BJ,AZ,DU,CK,DL,AU,A9,AL,AO,AJ,BA,AR,AC,AA,AQ,BD,A7,↓reduceIte,Option.getD_some,Bool.not_false]
   exact ⟨by unfold GL; rw [if_neg h1',if_neg h23,if_neg hi',if_neg hab,he]; rfl,hx2⟩
  ·simp -implicitDefEqProofs only [A8,AX,BJ,AZ,CJ,D6,CK,DI,AU,A9,AL,AO,AJ,BA,AR,AC,AA,AQ,BD,A7,↓reduceIte,Option.getD_some,Bool.not_false]
   exact ⟨by unfold GL; rw [if_neg h1',if_neg h23,if_neg hi',if_neg hab,he]; rfl,hx2⟩
 ·rintro F H' ⟨f4,rfl,hi⟩
  simp -implicitDefEqProofs only [CJ,D6,CK,f4]
  exact ⟨by unfold GL; rw [if_neg h1',if_neg h23,if_pos hi],hx⟩
end Go.Proofs.YtocilianjfhifaaGreatDoor.Cov
/- The error of a cross: the reference; no condition but the bounds on lengths. -/
set_option linter.unusedSimpArgs false
set_option maxRecDepth 8000
namespace Go.Proofs.YtocilianjfhifaaGreatDoor.Cov
open Go Go.Proofs Go.Proofs.YtocilianjfhifaaGreatDoor.Sm Go.Proofs.YtocilianjfhifaaGreatDoor.Bins Go.RowKit

theorem TG (m:Mo) (l:List Int) (k:Nat) (hk:k < l.length):(szs m l)[k]? = some (G5 m l[k]).length:=by
 unfold szs; rw [List.getElem?_map,List.getElem?_eq_getElem hk]; rfl
theorem JE (m:Mo) (l:List Int):(szs m l).length=l.length:=by unfold szs; simp
/-- a model and a cross in two blocks -/
structure Two (h H:Hp) (m:Mo) (c:Cr) (cb:Nat):Prop where
 gm:H[h.length]? = some (.live 2 [DC m])
 gc:H[cb]? = some (.live 3 [GH c])
 hx : ∃ x,H=h ++ x
theorem Two.lm {h H:Hp} {m:Mo} {c:Cr} {cb:Nat} (t:Two h H m c cb):D7 Tryz.prog H 22 (.ptr h.length 0 0)=some (.sl m.pm 6 (m.pts.map G9)):=by rw [DX TW t.gm (row:=DC m) rfl,O7]
theorem Two.l0 {h H:Hp} {m:Mo} {c:Cr} {cb:Nat} (t:Two h H m c cb):D7 Tryz.prog H 9 (.ptr cb 0 0)=some (.str c.name):=by rw [DX ag9 t.gc (row:=GH c) rfl,AL1]
theorem Two.l1 {h H:Hp} {m:Mo} {c:Cr} {cb:Nat} (t:Two h H m c cb):D7 Tryz.prog H 57 (.ptr cb 0 1)=some (.sl c.pm 1 (c.pts.map encI)):=by rw [DX KA t.gc (row:=GH c) rfl,RP]
theorem Two.l2 {h H:Hp} {m:Mo} {c:Cr} {cb:Nat} (t:Two h H m c cb):D7 Tryz.prog H 26 (.ptr cb 0 2)=some (.sl c.xm 1 (c.excl.map GG)):=by rw [DX QR t.gc (row:=GH c) rfl,AHN]
theorem Two.mk' (h:Hp) (m:Mo) (c:Cr):Two h (h ++ [.live 2 [DC m]] ++ [.live 3 [GH c]]) m c (h ++ [ABlk.live 2 [DC m]]).length:=⟨C9 (CQ _ _),CQ _ _,⟨_,List.append_assoc _ _ _⟩⟩
theorem WU (G:Nat→AV) (m:Mo) (c:Cr) (h:Hp) (hh:Here m c.pts) (hf:Full m) (hl:c.pts.length≤1048576):PCall (En G) 89 [.agg (DC m),.agg (GH c)] h (.int .i64 (min (FM (szs m c.pts)) 1000)):=by
 refine ACalls.pure0 rfl ?_
 refine BX (H:=Hint.none) (enM G) Tryz.func89 rfl (by kernel_rfl) (by kernel_rfl) (Nat.le_of_ble_eq_true (by kernel_rfl)) ?_
 show awp _ _ _ _ _ (EJ _ [.tmp 4] _)
 have t:=Two.mk' h m c
 simp -implicitDefEqProofs only [A8,BM,AX,AZ,AU,A9,AL,AO,AJ,BA,AR,AC,AA,AY,AQ,BD,A7,EW,BO,BC,BP,↓reduceIte,Nat.reduceEqDiff,Option.getD_some,Bool.not_false,enP,bxM,bxC]
 generalize h ++ [ABlk.live 2 [DC m]] ++ [ABlk.live 3 [GH c]]=H at t ⊢
 generalize (h ++ [ABlk.live 2 [DC m]]).length=cb at t ⊢
 have hs:=hf.szs hh
 refine FO 0 (fun F H'=>(F 5 = .int .i64 (FM (szs m c.pts):Nat)∨∃ n:Nat,1000≤n∧n≤FM (szs m c.pts)∧F 5 = .int .i64 n)∧H'=H) (fun _ _=>False) ?_ ?_ (fun _ _ hh=>hh.elim)
 ·refine CS (fun n F H' => ∃ k,n+k=c.pts.length∧F 2 = .ptr h.length 0 0∧F 3 = .ptr cb 0 0∧F 5 = .int .i64 (FM ((szs m c.pts).take k):Nat)∧F 6 = .int .i64 (k:Nat)∧H'=H) c.pts.length ⟨0,by simp,by simp -implicitDefEqProofs only [AA,↓reduceIte,Nat.reduceEqDiff],by simp -implicitDefEqProofs only [AA,↓reduceIte,Nat.reduceEqDiff],by simp -implicitDefEqProofs only [AA,↓reduceIte,Nat.reduceEqDiff]; rfl,by simp -implicitDefEqProofs only [AA,↓reduceIte]; rfl,rfl⟩ ?_
  rintro n F H' ⟨k,hk,f2,f3,f5,f6,rfl⟩
  simp -implicitDefEqProofs only [A8,AX,AU,BH,BQ,BZ,AL,AO,AJ,BA,AR,AC,AA,AY,BB,BL,BN,BG,C8,AB,CO,↓reduceIte,Nat.reduceEqDiff,Nat.zero_add,Option.getD_some,Bool.not_false,enP,GV,IU,f3,f6,t.l1,List.length_map]
  refine GJ (fun ha => ?_) (fun ha => ?_)
  ·have hk':k < c.pts.length:=by simpa using ha
   simp -implicitDefEqProofs only [BF,AZ,AU,A9,BH,BQ,BZ,FZ,AL,AO,AJ,BA,AR,AC,AA,AY,AQ,BD,BI,BB,CF,DJ,BN,AB,CO,↓reduceIte,Nat.reduceEqDiff,Option.getD_some,Bool.not_false,enP,ha,f5]
   refine CG (fun hb => ?_) (fun hb => ?_)
   ·have hb':FM ((szs m c.pts).take k) < 1000:=by simp at hb; omega
    obtain ⟨s,ls⟩:=hh.ld hk' H'
    have hks:k < (szs m c.pts).length:=by rw [JE]; exact hk'
    have hgt:(szs m c.pts)[k]=(G5 m c.pts[k]).length:=F4 (TG m c.pts k hk')
    have h64:=(hs _ (List.getElem_mem hks)).2
    rw [hgt] at h64
    have hpt:=MB (szs m c.pts) k hks
    rw [hgt] at hpt
    have hmul:FM ((szs m c.pts).take k) * (G5 m c.pts[k]).length≤1000 * 64:=Nat.mul_le_mul (by omega) h64
    have hw:IntKind.i64.wrap ((FM ((szs m c.pts).take k):Int) * ((G5 m c.pts[k]).length:Int))=((FM ((szs m c.pts).take (k+1)):Nat):Int):=by
     rw [hpt,← Int.natCast_mul,RY (by omega)]
    simp -implicitDefEqProofs only [A8,BM,BK,AZ]
    refine EG (by kernel_rfl) ?_
    simp -implicitDefEqProofs only [FJ,DT,CZ,EO,DV,ET,GM,EN,GK,DW,DN,FX,AX,AZ,DU,DZ,AU,A9,AL,AO,AJ,BA,AR,AC,AA,AY,AQ,BD,BB,A7,BL,BN,BG,BU,C8,AB,CR,TS,↓reduceIte,Nat.reduceEqDiff,Nat.reduceAdd,Nat.add_zero,Nat.zero_add,Option.getD_some,Bool.not_false,enP,MV,GZ,PI,HZ,IL,IU,f2,f3,f5,f6,t.lm,t.l1,CW hk',CP ag3 hk',encI0,hh.ix hk',ls,List.length_map,hw,CB (show k < 9223372036854775807 by omega)]
    exact ⟨n - 1,by omega,k+1,by omega,trivial,trivial,rfl,rfl,trivial⟩
   ·simp -implicitDefEqProofs only [CU,DR,II,EF,AA,↓reduceIte,Nat.reduceEqDiff]
    exact ⟨.inr ⟨_,by simp at hb; omega,ZQ _ _ (fun n hn=>(hs n hn).1),f5⟩,trivial⟩
  ·have hk' : ¬ k < c.pts.length:=by simpa using ha
   simp -implicitDefEqProofs only [CU,BF,AZ,DR,II,EF,DL,AU,A9,BH,BQ,BZ,IQ,AL,AO,AJ,BA,AR,AC,AA,EM,AY,AQ,BI,CF,DK,↓reduceIte,Nat.reduceEqDiff,Option.getD_some,Bool.not_false,ha]
   refine ⟨.inl ?_,trivial⟩
   rw [List.take_of_length_le (by rw [JE]; omega)] at f5
   exact f5
 ·rintro F H' ⟨f5,rfl⟩
  rcases f5 with f5 | ⟨n,h1,h2,f5⟩
  ·simp -implicitDefEqProofs only [A8,AX,BJ,AZ,EB,CK,AU,A9,AL,AO,AJ,BA,AR,AC,AA,AY,AQ,BD,BB,A7,AFG,AB,ZX,↓reduceIte,Option.getD_some,Bool.not_false,f5]
   exact ⟨trivial,t.hx⟩
  ·simp -implicitDefEqProofs only [A8,AX,BJ,AZ,EB,CK,AU,A9,AL,AO,AJ,BA,AR,AC,AA,AY,AQ,BD,BB,A7,AFG,AB,ZX,↓reduceIte,Option.getD_some,Bool.not_false,f5]
   exact ⟨by congr 1; omega,t.hx⟩
/-- as many points as a cross has, and where they are -/
def placed (m:Mo) (c:Cr):Bool:=decide (2≤c.pts.length) && decide (c.pts.length≤4) && SF m.pts.length none c.pts
theorem AI1 (G:Nat→AV) (m:Mo) (c:Cr) (h:Hp) (hl:c.pts.length≤1048576):PCall (En G) 171 [.agg (DC m),.agg (GH c)] h (.bool (placed m c)):=by
 refine ACalls.pure0 rfl ?_
 refine BX (H:=Hint.none) (enM G) Tryz.func171 rfl (by kernel_rfl) (by kernel_rfl) (Nat.le_of_ble_eq_true (by kernel_rfl)) ?_
 show awp _ _ _ _ _ (EJ _ [.tmp 4] _)
 have t:=Two.mk' h m c
 simp -implicitDefEqProofs only [A8,AX,AZ,AU,A9,AL,AO,AJ,BA,AR,AC,AA,AY,AQ,BI,A7,EW,BL,BG,BO,AB,BC,BP,↓reduceIte,Nat.reduceEqDiff,Nat.zero_add,Option.getD_some,Bool.not_false,enP,IU,bxM,bxC]
 generalize h ++ [ABlk.live 2 [DC m]] ++ [ABlk.live 3 [GH c]]=H at t ⊢
 generalize (h ++ [ABlk.live 2 [DC m]]).length=cb at t ⊢
 simp -implicitDefEqProofs only [AU,BH,BQ,BZ,AL,AO,AJ,BA,AR,AC,AA,AY,AQ,BD,BB,BN,C8,AB,CO,↓reduceIte,Option.getD_some,Bool.not_false,enP,GV,t.l1,List.length_map]
 refine GJ (fun h2 => ?_) (fun h2 => ?_)
 ·simp -implicitDefEqProofs only [A8,AX,BJ,BF,AZ,CJ,CK,DI,AU,A9,BH,BQ,BZ,FN,AL,AO,AJ,BA,AR,AC,AA,EM,AY,AQ,BI,A7,CF,DJ,↓reduceIte,Nat.reduceEqDiff,Option.getD_some,Bool.not_false,h2]
  have:decide (2≤c.pts.length)=false:=by simp at h2 ⊢; omega
  exact ⟨by unfold placed; rw [this]; rfl,t.hx⟩
 have d2:decide (2≤c.pts.length)=true:=by simp at h2 ⊢; omega
 simp -implicitDefEqProofs only [BF,AZ,AU,A9,BH,BQ,BZ,EH,AL,AO,AJ,BA,AR,AC,AA,AY,AQ,BD,BI,CF,DK,BL,BN,BG,C8,AB,EK,↓reduceIte,Nat.reduceEqDiff,Nat.zero_add,Option.getD_some,Bool.not_false,enP,GV,IU,h2,t.l1,List.length_map]
 refine CG (fun h3 => ?_) (fun h3 => ?_)
 ·simp -implicitDefEqProofs only [A8,AX,BJ,AZ,CJ,CK,AU,A9,AL,AO,AJ,BA,AR,AC,AA,AQ,BI,A7,↓reduceIte,Option.getD_some,Bool.not_false]
  have:decide (c.pts.length≤4)=false:=by simp at h3 ⊢; omega
  exact ⟨by unfold placed; rw [this]; simp,t.hx⟩
 have d3:decide (c.pts.length≤4)=true:=by simp at h3 ⊢; omega
 have hpl:placed m c=SF m.pts.length none c.pts:=by unfold placed; rw [d2,d3]; rfl
 rw [hpl]
 simp -implicitDefEqProofs only [A8,BM,AX,BK,AZ,AU,A9,AL,AO,AJ,BA,AR,AC,AQ,BD,A7,Option.getD_some,Bool.not_false]
 refine CS (fun n F H' => ∃ k,n+k=c.pts.length∧F 2 = .ptr h.length 0 0∧F 3 = .ptr cb 0 0∧F 5 = .int .i64 (k:Nat)∧H'=H∧SF m.pts.length none c.pts=SF m.pts.length (prev c.pts k) (c.pts.drop k)) c.pts.length ⟨0,by simp,by simp -implicitDefEqProofs only [AA,↓reduceIte,Nat.reduceEqDiff],by simp -implicitDefEqProofs only [AA,↓reduceIte,Nat.reduceEqDiff],by simp -implicitDefEqProofs only [AA,↓reduceIte]; rfl,rfl,rfl⟩ ?_
 rintro n F H' ⟨k,hk,f2,f3,f5,rfl,hi⟩
 simp -implicitDefEqProofs only [A8,AX,BF,AZ,AU,A9,AL,AO,AJ,BA,AR,AC,AA,AY,BB,BL,BN,BG,C8,AB,CO,↓reduceIte,Nat.reduceEqDiff,Nat.zero_add,Option.getD_some,Bool.not_false,enP,GV,IU,f3,f5,t.l1,List.length_map]
 refine CG (fun hlt => ?_) (fun hlt => ?_)
 ·have hk':k < c.pts.length:=by simpa using hlt
  rw [ACX _ _ _ hk'] at hi
  simp -implicitDefEqProofs only [A8,BM,BK,AZ]
  refine EG (by kernel_rfl) ?_
  simp -implicitDefEqProofs only [FJ,DT,CZ,DV,EY,FR,ET,EN,GK,DW,DN,BZ,AL,AA,AY,AQ,BD,BL,BN,BG,BU,AB,CO,↓reduceIte,Nat.reduceEqDiff,Nat.reduceAdd,Nat.zero_add,Option.getD_some,enP,IL,IU,f2,f3,f5,t.l1,CW hk',CP ag3 hk',encI0]
  refine AIG (fun ha => ?_) (fun ha => ?_)
  ·simp -implicitDefEqProofs only [FJ,DT,CZ,EO,DV,EY,FR,WB,AWW,ET,G6,A8,AX,BJ,BF,AZ,CJ,D6,EZ,CK,DI,AU,A9,BZ,AL,AO,AJ,BA,AR,AC,AA,EM,AY,AQ,BI,A7,CF,DJ,↓reduceIte,Nat.reduceEqDiff,Nat.reduceAdd,Option.getD_some,Bool.not_false,ha]
   have:decide (0≤c.pts[k])=false:=by simp at ha ⊢; omega
   exact ⟨by rw [hi,this]; rfl,t.hx⟩
  have ha':decide (0≤c.pts[k])=true:=by simp at ha ⊢; omega
  simp -implicitDefEqProofs only [FJ,DT,CZ,DV,EY,FR,NT,ET,G6,EN,GK,DW,DN,FX,BZ,AL,AA,AY,AQ,BI,CF,DK,BL,BN,BG,BU,C8,AB,F3,↓reduceIte,Nat.reduceEqDiff,Nat.reduceAdd,Nat.add_zero,Nat.zero_add,Option.getD_some,enP,OZ,GZ,IL,IU,ha,f2,f3,f5,t.lm,t.l1,CW hk',CP ag3 hk',encI0,List.length_map]
  refine AIG (fun hb => ?_) (fun hb => ?_)
  ·simp -implicitDefEqProofs only [FJ,DT,CZ,EO,DV,EY,FR,WB,AWW,G6,A8,AX,BJ,BF,AZ,CJ,D6,EZ,CK,DI,AU,A9,BZ,AL,AO,AJ,BA,AR,AC,AA,EM,AY,AQ,BI,A7,CF,DJ,↓reduceIte,Nat.reduceEqDiff,Nat.reduceAdd,Option.getD_some,Bool.not_false,hb]
   have:decide (c.pts[k] < (m.pts.length:Int))=false:=by simp at hb ⊢; omega
   exact ⟨by rw [hi,this,ha']; rfl,t.hx⟩
  have hb':decide (c.pts[k] < (m.pts.length:Int))=true:=by simp at hb ⊢; omega
  rw [ha',hb'] at hi
  simp only [Bool.true_and] at hi
  cases k with
  | zero =>
    have hz:decide ((((0:Nat):Int)) > 0)=false:=by decide
    simp -implicitDefEqProofs only [FJ,DT,CZ,EO,DV,EY,FR,NT,ABL,ET,G6,GK,AX,BK,BF,AZ,DU,DZ,DL,AU,A9,BZ,AL,AO,AJ,BA,AR,AC,AA,EM,AY,AQ,BD,BI,BB,A7,CF,DK,BN,AB,CR,EK,↓reduceIte,Nat.reduceEqDiff,Nat.reduceAdd,Nat.zero_add,Option.getD_some,Bool.not_false,enP,hb,hz,f5,CB (show 0 < 9223372036854775807 by omega)]
    exact ⟨n - 1,by omega,1,by omega,f2,f3,rfl,trivial,by rw [hi]; rfl⟩
  | succ k =>
    have hz:decide ((((k+1:Nat):Int)) > 0)=true:=by simp
    have hw:IntKind.i64.wrap (((k+1:Nat):Int) - 1)=(k:Int):=by rw [wrap_i64 (by omega) (by omega)]; omega
    have hk2:k < c.pts.length:=by omega
    have hpv:prev c.pts (k+1)=some c.pts[k]:=by unfold prev; exact List.getElem?_eq_getElem hk2
    rw [hpv] at hi
    simp -implicitDefEqProofs only [FJ,DT,CZ,EO,DV,EY,FR,QU,NT,ET,G6,EN,GK,DW,DN,BF,AZ,BZ,AL,AA,AY,AQ,BD,BI,CF,DJ,DK,BL,BN,BG,BU,AB,J8,J9,EK,↓reduceIte,Nat.reduceEqDiff,Nat.reduceAdd,Nat.zero_add,Option.getD_some,enP,IL,IU,hb,hz,f3,f5,t.l1,hw,CW hk',CW hk2,CP ag3 hk',CP ag3 hk2,encI0]
    refine CG (fun hd => ?_) (fun hd => ?_)
    ·simp -implicitDefEqProofs only [A8,AX,BJ,AZ,CJ,D6,EZ,CK,AU,A9,AL,AO,AJ,BA,AR,AC,AA,AQ,BI,A7,↓reduceIte,Option.getD_some,Bool.not_false]
     have:decide (c.pts[k] < c.pts[k+1])=false:=by simp at hd ⊢; omega
     exact ⟨by rw [hi]; simp only [this]; rfl,t.hx⟩
    ·simp -implicitDefEqProofs only [AX,BK,AZ,DU,DZ,AU,A9,AL,AO,AJ,BA,AR,AC,AA,AY,AQ,BD,BB,A7,BN,AB,CR,↓reduceIte,Nat.reduceEqDiff,Option.getD_some,Bool.not_false,enP,f5,CB (show k+1 < 9223372036854775807 by omega)]
     have:decide (c.pts[k] < c.pts[k+1])=true:=by simp at hd ⊢; omega
     exact ⟨n - 1,by omega,k+1+1,by omega,f2,f3,rfl,trivial,by rw [hi]; simp only [this]; rfl⟩
 ·have hk' : ¬ k < c.pts.length:=by simpa using hlt
  simp -implicitDefEqProofs only [A8,AX,BJ,CU,AZ,DR,EB,EF,CK,AU,A9,AL,AO,AJ,BA,AR,AC,AA,AQ,BI,A7,↓reduceIte,Option.getD_some,Bool.not_false]
  exact ⟨by rw [hi,List.drop_eq_nil_of_le (by omega)]; rfl,t.hx⟩
theorem X9 (G:Nat→AV) (m:Mo) (c:Cr) (x:Is) (h:Hp) (hh:Here m c.pts) (hl:c.pts.length≤1048576):PCall (En G) 172 [.agg (DC m),.agg (GH c),.sl x.m 1 (x.l.map encI)] h (.bool (KM (szs m c.pts) x.l)):=by
 refine ACalls.pure0 rfl ?_
 refine BX (H:=Hint.none) (enM G) Tryz.func172 rfl (by kernel_rfl) (by kernel_rfl) (Nat.le_of_ble_eq_true (by kernel_rfl)) ?_
 show awp _ _ _ _ _ (EJ _ [.tmp 6] _)
 have t:=Two.mk' h m c
 simp -implicitDefEqProofs only [A8,AX,AZ,AU,A9,AL,AO,AJ,BA,AR,AC,AA,AY,AQ,BI,BB,A7,EW,BL,BG,C8,BO,AB,BC,BP,↓reduceIte,Nat.reduceEqDiff,Nat.zero_add,Option.getD_some,Bool.not_false,enP,GV,IU,bxM,bxC]
 generalize h ++ [ABlk.live 2 [DC m]] ++ [ABlk.live 3 [GH c]]=H at t ⊢
 generalize (h ++ [ABlk.live 2 [DC m]]).length=cb at t ⊢
 simp -implicitDefEqProofs only [BF,AZ,AU,A9,AL,AO,AJ,BA,AR,AC,AA,AY,BN,C8,AB,ED,↓reduceIte,Nat.reduceEqDiff,Option.getD_some,Bool.not_false,enP,GV,t.l1,List.length_map]
 refine CG (fun h2 => ?_) (fun h2 => ?_)
 ·simp -implicitDefEqProofs only [A8,AX,BJ,AZ,CJ,CK,AU,A9,AL,AO,AJ,BA,AR,AC,AA,AQ,BI,A7,↓reduceIte,Option.getD_some,Bool.not_false]
  have:KM (szs m c.pts) x.l=false:=by
   rw [← Bool.not_eq_true]; intro e
   have:=NP e
   rw [JE] at this
   simp at h2; omega
  exact ⟨by rw [this],t.hx⟩
 have hlen:x.l.length=c.pts.length:=by simp at h2; omega
 simp -implicitDefEqProofs only [A8,BM,AX,BK,AZ,AU,A9,AL,AO,AJ,BA,AR,AC,AQ,BD,A7,Option.getD_some,Bool.not_false]
 refine CS (fun n F H' => ∃ k,n+k=x.l.length∧F 2 = .sl x.m 1 (x.l.map encI)∧F 3 = .ptr h.length 0 0∧F 4 = .ptr cb 0 0∧F 7 = .int .i64 (k:Nat)∧H'=H∧KM (szs m c.pts) x.l=KM ((szs m c.pts).drop k) (x.l.drop k)) x.l.length ⟨0,by simp,by simp -implicitDefEqProofs only [AA,BC,BP,↓reduceIte,Nat.reduceEqDiff],by simp -implicitDefEqProofs only [AA,↓reduceIte,Nat.reduceEqDiff],by simp -implicitDefEqProofs only [AA,↓reduceIte,Nat.reduceEqDiff],by simp -implicitDefEqProofs only [AA,↓reduceIte]; rfl,rfl,rfl⟩ ?_
 rintro n F H' ⟨k,hk,f2,f3,f4,f7,rfl,hi⟩
 simp -implicitDefEqProofs only [A8,AX,BF,AZ,AU,A9,AL,AO,AJ,BA,AR,AC,AA,AY,BB,BN,C8,AB,CO,↓reduceIte,Nat.reduceEqDiff,Option.getD_some,Bool.not_false,enP,GV,f2,f7,List.length_map]
 refine CG (fun hlt => ?_) (fun hlt => ?_)
 ·have hk':k < x.l.length:=by simpa using hlt
  have hkc:k < c.pts.length:=by omega
  have hks:k < (szs m c.pts).length:=by rw [JE]; exact hkc
  have hgt:(szs m c.pts)[k]=(G5 m c.pts[k]).length:=F4 (TG m c.pts k hkc)
  rw [List.drop_eq_getElem_cons hk',List.drop_eq_getElem_cons hks,hgt] at hi
  obtain ⟨s,ls⟩:=hh.ld hkc H'
  simp -implicitDefEqProofs only [A8,BM,BK,AZ]
  refine EG (by kernel_rfl) ?_
  simp -implicitDefEqProofs only [FJ,DT,CZ,DV,EY,FR,ET,EN,GK,DN,BZ,AL,AA,AY,AQ,BD,BL,BN,BU,AB,CO,↓reduceIte,Nat.reduceEqDiff,Nat.reduceAdd,Option.getD_some,enP,IL,f2,f3,f4,f7,CW hk',CP ag3 hk',encI0]
  refine AIG (fun ha => ?_) (fun ha => ?_)
  ·simp -implicitDefEqProofs only [FJ,DT,CZ,EO,DV,EY,FR,WB,G6,A8,AX,BJ,BF,AZ,CJ,D6,EZ,CK,DI,AU,A9,BZ,AL,AO,AJ,BA,AR,AC,AA,EM,AY,AQ,BI,A7,CF,DJ,↓reduceIte,Nat.reduceEqDiff,Nat.reduceAdd,Option.getD_some,Bool.not_false,ha]
   have:decide (0≤x.l[k])=false:=by simp at ha ⊢; omega
   exact ⟨by rw [hi]; unfold KM; rw [this]; rfl,t.hx⟩
  have h0:decide (0≤x.l[k])=true:=by simp at ha ⊢; omega
  simp -implicitDefEqProofs only [FJ,DT,CZ,EO,DV,EY,FR,NT,ET,G6,EN,GK,DW,DN,FX,BF,AZ,BZ,AL,AA,AY,AQ,BI,CF,DK,BL,BN,BG,BU,C8,AB,F3,↓reduceIte,Nat.reduceEqDiff,Nat.reduceAdd,Nat.add_zero,Nat.zero_add,Option.getD_some,enP,MV,GZ,PI,HZ,IL,IU,ha,f2,f3,f4,f7,t.lm,t.l1,CW hk',CP ag3 hk',CW hkc,CP ag3 hkc,encI0,hh.ix hkc,ls,List.length_map]
  refine CG (fun hd => ?_) (fun hd => ?_)
  ·simp -implicitDefEqProofs only [A8,AX,BJ,AZ,CJ,D6,EZ,CK,AU,A9,AL,AO,AJ,BA,AR,AC,AA,AQ,BI,A7,↓reduceIte,Option.getD_some,Bool.not_false]
   have:decide (x.l[k] < ((G5 m c.pts[k]).length:Int))=false:=by simp at hd ⊢; omega
   exact ⟨by rw [hi]; unfold KM; rw [this,h0]; rfl,t.hx⟩
  ·simp -implicitDefEqProofs only [AX,BK,AZ,DU,DZ,AU,A9,AL,AO,AJ,BA,AR,AC,AA,AY,AQ,BD,BB,A7,BN,AB,CR,↓reduceIte,Nat.reduceEqDiff,Option.getD_some,Bool.not_false,enP,f7,CB (show k < 9223372036854775807 by omega)]
   have h1:decide (x.l[k] < ((G5 m c.pts[k]).length:Int))=true:=by simp at hd ⊢; omega
   refine ⟨n - 1,by omega,k+1,by omega,f2,f3,f4,rfl,trivial,?_⟩
   rw [hi]
   conv=>lhs; unfold KM
   rw [h0,h1]; rfl
 ·have hk' : ¬ k < x.l.length:=by simpa using hlt
  simp -implicitDefEqProofs only [A8,AX,BJ,CU,AZ,DR,EB,EF,CK,AU,A9,AL,AO,AJ,BA,AR,AC,AA,AQ,BI,A7,↓reduceIte,Option.getD_some,Bool.not_false]
  exact ⟨by rw [hi,List.drop_eq_nil_of_le (show x.l.length≤k by omega),List.drop_eq_nil_of_le (by rw [JE]; omega)]; rfl,t.hx⟩
theorem ANV (G:Nat→AV) (m:Mo) (c:Cr) (hc:CrOk c) (hf:Full m) (h:Hp):PCall (En G) 108 [.agg (DC m),.agg (GH c)] h (.int .i64 (GL m c)):=by
 refine ACalls.pure0 rfl ?_
 have hc2:=hc.pts
 have hc3:=hc.excl
 refine BX (H:=Hint.none) (enM G) Tryz.func108 rfl (by kernel_rfl) (by kernel_rfl) (Nat.le_of_ble_eq_true (by kernel_rfl)) ?_
 show awp _ _ _ _ _ (EJ _ [.tmp 4] _)
 have t:=Two.mk' h m c
 simp -implicitDefEqProofs only [A8,AX,AZ,AU,A9,AL,AO,AJ,BA,AR,AC,AA,AY,AQ,BD,A7,EW,BL,BG,BO,AB,BC,BP,↓reduceIte,Nat.reduceEqDiff,Nat.add_zero,Option.getD_some,Bool.not_false,enP,AEO,bxM,bxC]
 generalize h ++ [ABlk.live 2 [DC m]] ++ [ABlk.live 3 [GH c]]=H at t ⊢
 generalize (h ++ [ABlk.live 2 [DC m]]).length=cb at t ⊢
 simp -implicitDefEqProofs only [AU,AL,AO,AJ,BA,AR,AC,AA,AY,BS,BV,BR,AB,List.map_cons,List.map_nil,List.append_nil,↓reduceIte,Option.getD_some,Bool.not_false,t.l0]
 refine (M8 G c.name _).use ?_
 simp -implicitDefEqProofs only [BF,AZ,AU,A9,AL,AO,AJ,BA,AR,AC,AA,AY,F9,AB,ER,↓reduceIte,Option.getD_some,Bool.not_false]
 cases h1:GA c.name
 ·simp -implicitDefEqProofs only [A8,AX,BJ,AZ,CJ,CK,DI,AU,A9,AL,AO,AJ,BA,AR,AC,AA,AQ,BD,A7,↓reduceIte,Option.getD_some,Bool.not_false]
  exact ⟨by unfold GL; rw [if_pos h1],t.hx⟩
 have h1' : ¬ GA c.name=false:=by rw [h1]; decide
 simp -implicitDefEqProofs only [A8,AX,BK,AZ,DL,AU,AL,AO,AJ,BA,AR,AC,AA,AY,BS,BL,BV,BR,AB,List.map_cons,List.map_nil,List.append_nil,↓reduceIte,Nat.reduceEqDiff,Option.getD_some,Bool.not_true,Bool.not_false,enP,ldM t.gm,ldC t.gc]
 refine (AI1 G m c _ (by omega)).use ?_
 simp -implicitDefEqProofs only [BF,AZ,AU,A9,AL,AO,AJ,BA,AR,AC,AA,AY,F9,AB,ER,↓reduceIte,Option.getD_some,Bool.not_false]
 cases h2:placed m c
 ·simp -implicitDefEqProofs only [A8,AX,BJ,AZ,CJ,CK,DI,AU,A9,AL,AO,AJ,BA,AR,AC,AA,AQ,BD,A7,↓reduceIte,Option.getD_some,Bool.not_false]
  refine ⟨?_,t.hx⟩
  unfold GL; rw [if_neg h1']
  unfold placed at h2
  split
  ·rfl
  ·rename_i h3
   have d2:decide (2≤c.pts.length)=true:=by simp; omega
   have d3:decide (c.pts.length≤4)=true:=by simp; omega
   rw [d2,d3] at h2
   rw [if_pos (by simpa using h2)]
 unfold placed at h2
 simp only [Bool.and_eq_true,decide_eq_true_eq] at h2
 obtain ⟨⟨h3,h4⟩,h5⟩:=h2
 have h23 : ¬ (c.pts.length < 2∨4 < c.pts.length):=by omega
 have hi' : ¬ SF m.pts.length none c.pts=false:=by rw [h5]; decide
 have hh:=TM h5
 simp -implicitDefEqProofs only [A8,AX,BK,AZ,DL,AU,AL,AO,AJ,BA,AR,AC,AA,AY,BS,BL,BV,BR,AB,List.map_cons,List.map_nil,List.append_nil,↓reduceIte,Nat.reduceEqDiff,Option.getD_some,Bool.not_true,Bool.not_false,enP,ldM t.gm,ldC t.gc]
 refine (WU G m c _ hh hf (by omega)).use ?_
 simp -implicitDefEqProofs only [AU,BH,BQ,BZ,AL,AO,AJ,BA,AR,AC,AA,AY,AQ,BD,BB,BN,AB,EK,↓reduceIte,Option.getD_some,Bool.not_false,enP]
 refine GJ (fun ha => ?_) (fun ha => ?_)
 ·simp -implicitDefEqProofs only [A8,AX,BJ,BF,AZ,CJ,CK,DI,AU,A9,BH,BQ,BZ,FN,AL,AO,AJ,BA,AR,AC,AA,EM,AY,AQ,BD,BI,A7,CF,DJ,↓reduceIte,Nat.reduceEqDiff,Option.getD_some,Bool.not_false,ha]
  exact ⟨by unfold GL; rw [if_neg h1',if_neg h23,if_neg hi',if_pos (.inl (by simp at ha; omega))],t.hx⟩
 simp -implicitDefEqProofs only [BF,AZ,AU,A9,BH,BQ,BZ,EH,AL,AO,AJ,BA,AR,AC,AA,AY,AQ,BD,BI,CF,DK,BL,BN,BG,C8,AB,EK,↓reduceIte,Nat.reduceEqDiff,Nat.zero_add,Option.getD_some,Bool.not_false,enP,WM,NU,ha,t.l2,List.length_map]
 refine CG (fun hb => ?_) (fun hb => ?_)
 ·simp -implicitDefEqProofs only [A8,AX,BJ,AZ,CJ,CK,AU,A9,AL,AO,AJ,BA,AR,AC,AA,AQ,BD,A7,↓reduceIte,Option.getD_some,Bool.not_false]
  exact ⟨by unfold GL; rw [if_neg h1',if_neg h23,if_neg hi',if_pos (.inr (by simp at hb; omega))],t.hx⟩
 have hab : ¬ (256 < FM (szs m c.pts)∨256 < c.excl.length):=by simp at ha hb; omega
 have hce:GL m c=if (c.excl.any fun x => !KM (szs m c.pts) x.l) then 1 else 0:=by
  unfold GL; rw [if_neg h1',if_neg h23,if_neg hi',if_neg hab]
 simp -implicitDefEqProofs only [A8,BM,AX,BK,AZ,AU,A9,AL,AO,AJ,BA,AR,AC,AQ,BD,A7,Option.getD_some,Bool.not_false]
 refine CS (fun n F H' => ∃ k,n+k=c.excl.length∧F 2 = .ptr h.length 0 0∧F 3 = .ptr cb 0 0∧F 5 = .int .i64 (k:Nat)∧H'=H∧(c.excl.any fun x => !KM (szs m c.pts) x.l)=((c.excl.drop k).any fun x => !KM (szs m c.pts) x.l)) c.excl.length ⟨0,by simp,by simp -implicitDefEqProofs only [AA,↓reduceIte,Nat.reduceEqDiff],by simp -implicitDefEqProofs only [AA,↓reduceIte,Nat.reduceEqDiff],by simp -implicitDefEqProofs only [AA,↓reduceIte]; rfl,rfl,rfl⟩ ?_
 rintro n F H' ⟨k,hk,f2,f3,f5,rfl,hi⟩
 simp -implicitDefEqProofs only [A8,AX,BF,AZ,AU,A9,AL,AO,AJ,BA,AR,AC,AA,AY,BB,BL,BN,BG,C8,AB,CO,↓reduceIte,Nat.reduceEqDiff,Nat.zero_add,Option.getD_some,Bool.not_false,enP,WM,NU,f3,f5,t.l2,List.length_map]
 refine CG (fun hlt => ?_) (fun hlt => ?_)
 ·have hk':k < c.excl.length:=by simpa using hlt
  have hs:=KJ (fun x:Is => !KM (szs m c.pts) x.l) c.excl k hk'
  simp -implicitDefEqProofs only [A8,BM,BK,AZ]
  refine EG (by kernel_rfl) ?_
  simp -implicitDefEqProofs only [FJ,DT,CZ,DV,ET,EN,ADV,DW,DN,FP,FD,AL,AA,AY,BS,BL,F9,BG,BU,AB,List.map_cons,List.map_nil,List.append_nil,↓reduceIte,Nat.reduceEqDiff,Nat.reduceAdd,Nat.zero_add,Option.getD_some,enP,PK,NU,f2,f3,f5,ldM t.gm,ldC t.gc,t.l2,CW hk',CP KA hk',LH]
  refine ⟨_,X9 G m c c.excl[k] _ hh (by omega),?_⟩
  try simp -implicitDefEqProofs only [CZ,EO,BF,AZ,AA,AY,AB,ER,↓reduceIte]
  cases hx:KM (szs m c.pts) c.excl[k].l
  ·simp -implicitDefEqProofs only [A8,AX,BJ,AZ,CJ,D6,EZ,CK,DI,AU,A9,AL,AO,AJ,BA,AR,AC,AA,AQ,BD,A7,↓reduceIte,Option.getD_some,Bool.not_false]
   exact ⟨by rw [hce,hi,hs,hx]; rfl,t.hx⟩
  ·simp -implicitDefEqProofs only [AX,BK,AZ,DU,DZ,DL,AU,A9,AL,AO,AJ,BA,AR,AC,AA,AY,AQ,BD,BB,A7,BN,AB,CR,↓reduceIte,Nat.reduceEqDiff,Option.getD_some,Bool.not_true,Bool.not_false,enP,f5,CB (show k < 9223372036854775807 by omega)]
   refine ⟨n - 1,by omega,k+1,by omega,f2,f3,rfl,trivial,?_⟩
   rw [hi,hs,hx]; rfl
 ·have hk' : ¬ k < c.excl.length:=by simpa using hlt
  simp -implicitDefEqProofs only [A8,AX,BJ,CU,AZ,DR,EB,EF,CK,AU,A9,AL,AO,AJ,BA,AR,AC,AA,AQ,BD,A7,↓reduceIte,Option.getD_some,Bool.not_false]
  exact ⟨by rw [hce,hi,List.drop_eq_nil_of_le (by omega)]; rfl,t.hx⟩
end Go.Proofs.YtocilianjfhifaaGreatDoor.Cov
/- The error of a model: the program; no condition but the variables that are laid and the bounds on lengths. -/
set_option linter.unusedSimpArgs false
set_option maxRecDepth 8000
namespace Go.Proofs.YtocilianjfhifaaGreatDoor.Cov
open Go Go.Proofs Go.Proofs.YtocilianjfhifaaGreatDoor.Sm Go.Proofs.YtocilianjfhifaaGreatDoor.Bins Go.RowKit

structure MoOk (m:Mo):Prop where
 np:m.pts.length≤1048576
 nc:m.crs.length≤1048576
 pts : ∀ p∈m.pts,PtOk p
 crs : ∀ c∈m.crs,CrOk c
def FH (m:Mo):Int :=
 if 16 < m.pts.length+m.crs.length then 2 else if JP GI m.pts≠0 then JP GI m.pts else if MX (m.pts.map (·.name)) then 8 else
  if JP (GL m) m.crs≠0 then JP (GL m) m.crs else if MX (m.crs.map (·.name)) then 8 else 0
theorem AAK {α:Type} (f:α→Int) : ∀ {xs:List α},JP f xs=0→∀ x∈xs,f x=0
 | [],_,_,hx=>by cases hx
 | y :: ys,h,x,hx=>by
   simp only [JP] at h
   split at h
   ·rename_i h0
    cases List.mem_cons.1 hx with
    | inl e=>subst e; exact h0
    | inr e=>exact AAK f h x e
   ·rename_i h0; exact absurd h h0
theorem AGG {p:Pt} (h:GI p=0):1≤p.bins.length∧p.bins.length≤64:=by
 unfold GI at h
 split at h
 ·cases h
 ·split at h
  ·rename_i h2; exact absurd h h2
  ·split at h
   ·cases h
   ·split at h
    ·cases h
    ·omega
theorem full_of {m:Mo} (h:JP GI m.pts=0):Full m:=fun p hp=>AGG (AAK _ h p hp)
theorem AT3 (h:Hp):JN Tryz.prog h 56=some (.ptr h.length 0 0,h ++ [.live 6 [[.str ⟨#[]⟩,.int .i64 0,.int .i64 0,.str ⟨#[]⟩,.sl .nil 0 [],.sl .nil 0 []]]]):=JC (row := [.str ⟨#[]⟩,.int .i64 0,.int .i64 0,.str ⟨#[]⟩,.sl .nil 0 [],.sl .nil 0 []]) (by kernel_rfl)
theorem ARZ (h:Hp) (p:Pt) (row:List AV) (hr:row.length=6):FQ Tryz.prog (h ++ [.live 6 [row]]) 56 (.ptr h.length 0 0) (.agg (G9 p))=some (h ++ [.live 6 [G9 p]]):=by
 rw [M5 (TB (ADA p)) (by rw [JJ]; exact X3) (by rw [JJ,hr]; exact Nat.le_refl _)]
 have:splice row 0 (G9 p)=G9 p:=by unfold splice; simp [JJ,hr]
 rw [this]
theorem ldP {h:Hp} {b:Nat} {p:Pt} (hb:h[b]? = some (.live 6 [G9 p])):D7 Tryz.prog h 56 (.ptr b 0 0)=some (.agg (G9 p)):=by
 rw [IK AE9 X3 hb rfl (by rw [JJ]; exact Nat.le_refl 6),List.drop_zero,List.take_of_length_le (by rw [JJ]; exact Nat.le_refl 6)]
theorem AT2 (h:Hp):JN Tryz.prog h 71=some (.ptr h.length 0 0,h ++ [.live 3 [[.str ⟨#[]⟩,.sl .nil 0 [],.sl .nil 0 []]]]):=JC (row := [.str ⟨#[]⟩,.sl .nil 0 [],.sl .nil 0 []]) (by kernel_rfl)
theorem ARY (h:Hp) (c:Cr) (row:List AV) (hr:row.length=3):FQ Tryz.prog (h ++ [.live 3 [row]]) 71 (.ptr h.length 0 0) (.agg (GH c))=some (h ++ [.live 3 [GH c]]):=by
 rw [M5 (TB rfl) (by rw [JR]; exact WE) (by rw [JR,hr]; exact Nat.le_refl _)]
 have:splice row 0 (GH c)=GH c:=by unfold splice; simp [JR,hr]
 rw [this]
theorem UQ (G:Nat→AV) (hG:GOk G) (m:Mo) (hm:MoOk m) (h:Hp):PCall (En G) 68 [.agg (DC m)] h (.int .i64 (FH m)):=by
 refine ACalls.pure0 rfl ?_
 have hm1:=hm.np
 have hm2:=hm.nc
 refine BX (H:=Hint.none) (enM G) Tryz.func68 rfl (by kernel_rfl) (by kernel_rfl) (Nat.le_of_ble_eq_true (by kernel_rfl)) ?_
 show awp _ _ _ _ _ (EJ _ [.tmp 2] _)
 have hw:IntKind.i64.wrap ((m.pts.length:Int)+(m.crs.length:Int))=(m.pts.length:Int)+(m.crs.length:Int):=wrap_i64 (by omega) (by omega)
 simp -implicitDefEqProofs only [A8,AX,BF,AZ,AU,A9,AL,AO,AJ,BA,AR,AC,AA,AY,AQ,BD,A7,EW,BL,BN,BG,C8,BO,AB,CR,EK,BC,↓reduceIte,Nat.reduceEqDiff,Nat.add_zero,Nat.zero_add,Option.getD_some,Bool.not_false,enP,OZ,Q5,GZ,H7,bxM,CX TW,CX XA,O7,RO,List.length_map,hw]
 refine CG (fun h1 => ?_) (fun h1 => ?_)
 ·simp -implicitDefEqProofs only [A8,AX,BJ,AZ,CJ,CK,AU,A9,AL,AO,AJ,BA,AR,AC,AA,AQ,BD,A7,↓reduceIte,Option.getD_some,Bool.not_false]
  exact ⟨by unfold FH; rw [if_pos (by simp at h1; omega)],_,rfl⟩
 have h1' : ¬ 16 < m.pts.length+m.crs.length:=by simp at h1; omega
 have hme:FH m=if JP GI m.pts≠0 then JP GI m.pts else if MX (m.pts.map (·.name)) then 8 else if JP (GL m) m.crs≠0 then JP (GL m) m.crs else if MX (m.crs.map (·.name)) then 8 else 0:=by
  unfold FH; rw [if_neg h1']
 have lm0 : ∀ H:Hp,H[h.length]? = some (.live 2 [DC m])→D7 Tryz.prog H 22 (.ptr h.length 0 0)=some (.sl m.pm 6 (m.pts.map G9)):=fun H hH=>by rw [DX TW hH (row:=DC m) rfl,O7]
 have lm1 : ∀ H:Hp,H[h.length]? = some (.live 2 [DC m])→D7 Tryz.prog H 23 (.ptr h.length 0 1)=some (.sl m.cm 3 (m.crs.map GH)):=fun H hH=>by rw [DX XA hH (row:=DC m) rfl,RO]
 simp -implicitDefEqProofs only [A8,BM,AX,BK,AZ,AU,A9,AL,AO,AJ,BA,AR,AC,AA,AY,AQ,BD,BB,BL,BG,C8,AB,↓reduceIte,Nat.reduceEqDiff,Nat.add_zero,Option.getD_some,Bool.not_false,enP,OZ,GZ,CX TW,O7,List.length_map]
 refine FO 0 (fun F H=>F 1 = .ptr h.length 0 0∧H[h.length]? = some (.live 2 [DC m])∧(∃ x,H=h ++ x)∧JP GI m.pts=0) (fun F H=>F 2 = .int .i64 (FH m)∧∃ x,H=h ++ x) ?_ ?_ ?_
 ·refine CS (fun n F H => ∃ k,n+k=m.pts.length∧F 1 = .ptr h.length 0 0∧F 18 = .sl m.pm 6 (m.pts.map G9)∧F 19 = .int .i64 m.pts.length∧F 20 = .int .i64 (k:Nat)∧H[h.length]? = some (.live 2 [DC m])∧(∃ x,H=h ++ x)∧JP GI m.pts=JP GI (m.pts.drop k)) m.pts.length ⟨0,by simp,by simp -implicitDefEqProofs only [AA,↓reduceIte,Nat.reduceEqDiff],by simp -implicitDefEqProofs only [AA,↓reduceIte,Nat.reduceEqDiff],by simp -implicitDefEqProofs only [AA,↓reduceIte,Nat.reduceEqDiff],by simp -implicitDefEqProofs only [AA,↓reduceIte]; rfl,CQ _ _,⟨_,rfl⟩,rfl⟩ ?_
  rintro n F H ⟨k,hk,f1,f18,f19,f20,hb,⟨x,hx⟩,hf⟩
  simp -implicitDefEqProofs only [A8,AX,BF,AZ,AU,A9,AL,AO,AJ,BA,AR,AC,AA,AY,BN,AB,CO,↓reduceIte,Option.getD_some,Bool.not_false,enP,f19,f20]
  refine CG (fun hc => ?_) (fun hc => ?_)
  ·have hk':k < m.pts.length:=by simpa using hc
   have hs:=OL GI m.pts k hk'
   simp -implicitDefEqProofs only [A8,BM,AX,BK,AZ,AU,A9,AL,AO,AJ,BA,AR,AC,EQ,AA,AY,BS,FL,BL,EC,BU,BV,BR,BO,AB,DF,List.map_cons,List.map_nil,List.append_nil,↓reduceIte,Nat.reduceEqDiff,Option.getD_some,Bool.not_false,enP,MV,Option.getD_none,f18,f20,CW hk',ES AE9 X3 JJ hk',AT3,ARZ _ _ [.str ⟨#[]⟩,.int .i64 0,.int .i64 0,.str ⟨#[]⟩,.sl .nil 0 [],.sl .nil 0 []] rfl,ldP (CQ H (.live 6 [G9 m.pts[k]]))]
   refine (AIZ G hG m.pts[k] (hm.pts _ (List.getElem_mem hk')) _).use ?_
   simp -implicitDefEqProofs only [A8,AX,BF,AZ,AU,A9,AL,AO,AJ,BA,AR,AC,AA,AY,AQ,BD,BB,A7,BN,AB,ED,↓reduceIte,Option.getD_some,Bool.not_false,enP]
   refine CG (fun hv => ?_) (fun hv => ?_)
   ·simp -implicitDefEqProofs only [A8,AX,BJ,AZ,CJ,D6,KC,EZ,AU,A9,AL,AO,AJ,BA,AR,AC,AA,AY,BB,A7,↓reduceIte,Nat.reduceEqDiff,Option.getD_some,Bool.not_false]
    have hv':GI m.pts[k]≠0:=by simpa using hv
    have:JP GI m.pts=GI m.pts[k]:=by rw [hf,hs,if_neg hv']
    exact ⟨by rw [hme,this,if_pos hv'],x ++ _,by rw [hx,List.append_assoc]⟩
   ·have hv':GI m.pts[k]=0:=by simpa using hv
    simp -implicitDefEqProofs only [AX,BK,AZ,DU,DZ,AU,A9,AL,AO,AJ,BA,AR,AC,AA,AY,AQ,BD,BB,BN,AB,CR,↓reduceIte,Nat.reduceEqDiff,Option.getD_some,Bool.not_false,enP,f20,CB (show k < 9223372036854775807 by omega)]
    exact ⟨n - 1,by omega,k+1,by omega,f1,f18,f19,rfl,C9 hb,⟨x ++ _,by rw [hx,List.append_assoc]⟩,by rw [hf,hs,if_pos hv']⟩
  ·have hk' : ¬ k < m.pts.length:=by simpa using hc
   simp -implicitDefEqProofs only [CU,DR,II,EF,AA,↓reduceIte,Nat.reduceEqDiff]
   exact ⟨f1,hb,⟨x,hx⟩,by rw [hf,List.drop_eq_nil_of_le (by omega)]; rfl⟩
 ·rintro F H ⟨f1,hb,hx0,hf⟩
  have hfull:=full_of hf
  rw [hf,if_neg (fun hh=>hh rfl)] at hme
  simp -implicitDefEqProofs only [A8,AX,AZ,EB,AU,AL,AO,AJ,BA,AR,AC,AA,AY,BS,BL,BG,BV,BR,AB,List.map_cons,List.map_nil,List.append_nil,↓reduceIte,Nat.add_zero,Option.getD_some,Bool.not_false,enP,GZ,f1,lm0 _ hb]
  refine (AMV G m.pts m.pm H (by omega)).use ?_
  simp -implicitDefEqProofs only [BF,AZ,A9,AC,AA,AY,↓reduceIte]
  cases hd:MX (m.pts.map (·.name))
  case true =>
   simp -implicitDefEqProofs only [A8,AX,BJ,AZ,CJ,CK,DI,AU,A9,AL,AO,AJ,BA,AR,AC,AA,AQ,BD,A7,↓reduceIte,Option.getD_some,Bool.not_false]
   exact ⟨by rw [hme,hd]; rfl,hx0⟩
  rw [hd] at hme
  simp only [Bool.false_eq_true,if_false] at hme
  simp -implicitDefEqProofs only [A8,BM,AX,BK,AZ,DL,AU,A9,AL,AO,AJ,BA,AR,AC,AA,AY,AQ,BD,BB,BL,BG,C8,AB,↓reduceIte,Nat.reduceEqDiff,Nat.zero_add,Option.getD_some,Bool.not_false,enP,Q5,H7,f1,lm1 _ hb,List.length_map]
  refine FO 2 (fun F H=>F 1 = .ptr h.length 0 0∧H[h.length]? = some (.live 2 [DC m])∧(∃ x,H=h ++ x)∧JP (GL m) m.crs=0) (fun F H=>F 2 = .int .i64 (FH m)∧∃ x,H=h ++ x) ?_ ?_ ?_
  ·refine CS (fun n F H => ∃ k,n+k=m.crs.length∧F 1 = .ptr h.length 0 0∧F 34 = .sl m.cm 3 (m.crs.map GH)∧F 35 = .int .i64 m.crs.length∧F 36 = .int .i64 (k:Nat)∧H[h.length]? = some (.live 2 [DC m])∧(∃ x,H=h ++ x)∧JP (GL m) m.crs=JP (GL m) (m.crs.drop k)) m.crs.length ⟨0,by simp,by simp -implicitDefEqProofs only [AA,↓reduceIte,Nat.reduceEqDiff,f1],by simp -implicitDefEqProofs only [AA,↓reduceIte,Nat.reduceEqDiff],by simp -implicitDefEqProofs only [AA,↓reduceIte,Nat.reduceEqDiff],by simp -implicitDefEqProofs only [AA,↓reduceIte]; rfl,hb,hx0,rfl⟩ ?_
   clear f1 hb hx0
   rintro n F H ⟨k,hk,f1,f34,f35,f36,hb,⟨x,hx⟩,hf⟩
   simp -implicitDefEqProofs only [A8,AX,BF,AZ,AU,A9,AL,AO,AJ,BA,AR,AC,AA,AY,BN,AB,CO,↓reduceIte,Option.getD_some,Bool.not_false,enP,f35,f36]
   refine CG (fun hc => ?_) (fun hc => ?_)
   ·have hk':k < m.crs.length:=by simpa using hc
    have hs:=OL (GL m) m.crs k hk'
    simp -implicitDefEqProofs only [A8,BM,AX,BK,AZ,AU,A9,AL,AO,AJ,BA,AR,AC,EQ,AA,AY,BS,FL,BL,EC,BU,BV,BR,BO,AB,DF,List.map_cons,List.map_nil,List.append_nil,↓reduceIte,Nat.reduceEqDiff,Option.getD_some,Bool.not_false,enP,P7,Option.getD_none,f1,f34,f36,CW hk',ES ABC WE JR hk',AT2,ARY _ _ [.str ⟨#[]⟩,.sl .nil 0 [],.sl .nil 0 []] rfl,ldC (CQ H (.live 3 [GH m.crs[k]])),ldM (C9 (x := .live 3 [GH m.crs[k]]) hb)]
    refine (AJS G hG m m.crs[k] (hm.crs _ (List.getElem_mem hk')) hfull _).use ?_
    simp -implicitDefEqProofs only [A8,AX,BF,AZ,AU,A9,AL,AO,AJ,BA,AR,AC,AA,AY,AQ,BD,BB,A7,BN,AB,ED,↓reduceIte,Option.getD_some,Bool.not_false,enP]
    refine CG (fun hv => ?_) (fun hv => ?_)
    ·simp -implicitDefEqProofs only [A8,AX,BJ,AZ,CJ,D6,KC,EZ,AU,A9,AL,AO,AJ,BA,AR,AC,AA,AY,BB,A7,↓reduceIte,Nat.reduceEqDiff,Option.getD_some,Bool.not_false]
     have hv':GL m m.crs[k]≠0:=by simpa using hv
     have:JP (GL m) m.crs=GL m m.crs[k]:=by rw [hf,hs,if_neg hv']
     exact ⟨by rw [hme,this,if_pos hv'],x ++ _,by rw [hx,List.append_assoc]⟩
    ·have hv':GL m m.crs[k]=0:=by simpa using hv
     simp -implicitDefEqProofs only [AX,BK,AZ,DU,DZ,AU,A9,AL,AO,AJ,BA,AR,AC,AA,AY,AQ,BD,BB,BN,AB,CR,↓reduceIte,Nat.reduceEqDiff,Option.getD_some,Bool.not_false,enP,f36,CB (show k < 9223372036854775807 by omega)]
     exact ⟨n - 1,by omega,k+1,by omega,f1,f34,f35,rfl,C9 hb,⟨x ++ _,by rw [hx,List.append_assoc]⟩,by rw [hf,hs,if_pos hv']⟩
   ·have hk' : ¬ k < m.crs.length:=by simpa using hc
    simp -implicitDefEqProofs only [CU,DR,II,EF,AA,↓reduceIte,Nat.reduceEqDiff]
    exact ⟨f1,hb,⟨x,hx⟩,by rw [hf,List.drop_eq_nil_of_le (by omega)]; rfl⟩
  ·rintro F H ⟨f1,hb,hx,hf⟩
   rw [hf,if_neg (fun hh=>hh rfl)] at hme
   simp -implicitDefEqProofs only [A8,AX,AZ,EB,AU,AL,AO,AJ,BA,AR,AC,AA,AY,BS,BL,BG,BV,BR,AB,List.map_cons,List.map_nil,List.append_nil,↓reduceIte,Nat.zero_add,Option.getD_some,Bool.not_false,enP,H7,f1,lm1 _ hb]
   refine (AMW G m.crs m.cm H (by omega)).use ?_
   simp -implicitDefEqProofs only [BF,AZ,A9,AC,AA,AY,↓reduceIte]
   cases hd:MX (m.crs.map (·.name))
   ·simp -implicitDefEqProofs only [A8,AX,BK,BJ,AZ,CK,DL,AU,A9,AL,AO,AJ,BA,AR,AC,AA,AQ,BD,A7,↓reduceIte,Option.getD_some,Bool.not_false]
    exact ⟨by rw [hme,hd]; rfl,hx⟩
   ·simp -implicitDefEqProofs only [A8,AX,BJ,AZ,CJ,CK,DI,AU,A9,AL,AO,AJ,BA,AR,AC,AA,AQ,BD,A7,↓reduceIte,Option.getD_some,Bool.not_false]
    exact ⟨by rw [hme,hd]; rfl,hx⟩
  ·rintro F H ⟨f2,hx⟩
   simp -implicitDefEqProofs only [CJ,D6,CK,f2]
   exact ⟨trivial,hx⟩
 ·rintro F H ⟨f2,hx⟩
  simp -implicitDefEqProofs only [CJ,D6,CK,f2]
  exact ⟨trivial,hx⟩
end Go.Proofs.YtocilianjfhifaaGreatDoor.Cov
/- The error of a model: the reference; no condition but the bounds on lengths. -/
set_option linter.unusedSimpArgs false
set_option maxRecDepth 8000
namespace Go.Proofs.YtocilianjfhifaaGreatDoor.Cov
open Go Go.Proofs Go.Proofs.YtocilianjfhifaaGreatDoor.Sm Go.Proofs.YtocilianjfhifaaGreatDoor.Bins Go.RowKit

theorem OI (G:Nat→AV) (m:Mo) (hm:MoOk m) (h:Hp):PCall (En G) 50 [.agg (DC m)] h (.int .i64 (FH m)):=by
 refine ACalls.pure0 rfl ?_
 have hm1:=hm.np
 have hm2:=hm.nc
 refine BX (H:=Hint.none) (enM G) Tryz.func50 rfl (by kernel_rfl) (by kernel_rfl) (Nat.le_of_ble_eq_true (by kernel_rfl)) ?_
 show awp _ _ _ _ _ (EJ _ [.tmp 2] _)
 have hw:IntKind.i64.wrap ((m.pts.length:Int)+(m.crs.length:Int))=(m.pts.length:Int)+(m.crs.length:Int):=wrap_i64 (by omega) (by omega)
 have gm:=CQ h (.live 2 [DC m])
 have hx : ∃ x,h ++ [ABlk.live 2 [DC m]]=h ++ x:=⟨_,rfl⟩
 simp -implicitDefEqProofs only [A8,AX,AZ,AU,A9,AL,AO,AJ,BA,AR,AC,AA,AY,AQ,BD,A7,EW,BL,BG,BO,AB,BC,↓reduceIte,Nat.reduceEqDiff,Nat.add_zero,Option.getD_some,Bool.not_false,enP,GZ,bxM]
 generalize h ++ [ABlk.live 2 [DC m]]=H at gm hx ⊢
 have lm0:D7 Tryz.prog H 22 (.ptr h.length 0 0)=some (.sl m.pm 6 (m.pts.map G9)):=by rw [DX TW gm (row:=DC m) rfl,O7]
 have lm1:D7 Tryz.prog H 23 (.ptr h.length 0 1)=some (.sl m.cm 3 (m.crs.map GH)):=by rw [DX XA gm (row:=DC m) rfl,RO]
 simp -implicitDefEqProofs only [BF,AZ,AU,A9,AL,AO,AJ,BA,AR,AC,AA,AY,AQ,BD,BL,BN,BG,C8,AB,CR,EK,↓reduceIte,Nat.reduceEqDiff,Nat.zero_add,Option.getD_some,Bool.not_false,enP,OZ,Q5,H7,lm0,lm1,List.length_map,hw]
 refine CG (fun h1 => ?_) (fun h1 => ?_)
 ·simp -implicitDefEqProofs only [A8,AX,BJ,AZ,CJ,CK,AU,A9,AL,AO,AJ,BA,AR,AC,AA,AQ,BD,A7,↓reduceIte,Option.getD_some,Bool.not_false]
  exact ⟨by unfold FH; rw [if_pos (by simp at h1; omega)],hx⟩
 have h1' : ¬ 16 < m.pts.length+m.crs.length:=by simp at h1; omega
 have hme:FH m=if JP GI m.pts≠0 then JP GI m.pts else if MX (m.pts.map (·.name)) then 8 else if JP (GL m) m.crs≠0 then JP (GL m) m.crs else if MX (m.crs.map (·.name)) then 8 else 0:=by
  unfold FH; rw [if_neg h1']
 simp -implicitDefEqProofs only [A8,BM,AX,BK,AZ,AU,A9,AL,AO,AJ,BA,AR,AC,AQ,BD,A7,Option.getD_some,Bool.not_false]
 refine FO 0 (fun F H'=>F 1 = .ptr h.length 0 0∧H'=H∧JP GI m.pts=0) (fun F H'=>F 2 = .int .i64 (FH m)∧H'=H) ?_ ?_ ?_
 ·refine CS (fun n F H' => ∃ k,n+k=m.pts.length∧F 1 = .ptr h.length 0 0∧F 3 = .int .i64 (k:Nat)∧H'=H∧JP GI m.pts=JP GI (m.pts.drop k)) m.pts.length ⟨0,by simp,by simp -implicitDefEqProofs only [AA,↓reduceIte,Nat.reduceEqDiff],by simp -implicitDefEqProofs only [AA,↓reduceIte]; rfl,rfl,rfl⟩ ?_
  rintro n F H' ⟨k,hk,f1,f3,rfl,hf⟩
  simp -implicitDefEqProofs only [A8,AX,BF,AZ,AU,A9,AL,AO,AJ,BA,AR,AC,AA,AY,BB,BL,BN,BG,C8,AB,CO,↓reduceIte,Nat.reduceEqDiff,Nat.add_zero,Option.getD_some,Bool.not_false,enP,OZ,GZ,f1,f3,lm0,List.length_map]
  refine CG (fun hc => ?_) (fun hc => ?_)
  ·have hk':k < m.pts.length:=by simpa using hc
   have hs:=OL GI m.pts k hk'
   simp -implicitDefEqProofs only [A8,BM,AX,BK,AZ,AU,AL,AO,AJ,BA,AR,AC,AA,AY,BS,BB,BL,BG,BU,BV,BR,AB,List.map_cons,List.map_nil,List.append_nil,↓reduceIte,Nat.reduceEqDiff,Nat.add_zero,Option.getD_some,Bool.not_false,enP,MV,GZ,f1,f3,lm0,CW hk',ES AE9 X3 JJ hk']
   refine (AMZ G m.pts[k] (hm.pts _ (List.getElem_mem hk')) _).use ?_
   simp -implicitDefEqProofs only [A8,AX,BF,AZ,AU,A9,AL,AO,AJ,BA,AR,AC,AA,AY,AQ,BD,BB,A7,BN,AB,ED,↓reduceIte,Option.getD_some,Bool.not_false,enP]
   refine CG (fun hv => ?_) (fun hv => ?_)
   ·simp -implicitDefEqProofs only [A8,AX,BJ,AZ,CJ,D6,KC,EZ,AU,A9,AL,AO,AJ,BA,AR,AC,AA,AY,BB,A7,↓reduceIte,Nat.reduceEqDiff,Option.getD_some,Bool.not_false]
    have hv':GI m.pts[k]≠0:=by simpa using hv
    have:JP GI m.pts=GI m.pts[k]:=by rw [hf,hs,if_neg hv']
    exact ⟨by rw [hme,this,if_pos hv'],trivial⟩
   ·have hv':GI m.pts[k]=0:=by simpa using hv
    simp -implicitDefEqProofs only [AX,BK,AZ,DU,DZ,AU,A9,AL,AO,AJ,BA,AR,AC,AA,AY,AQ,BD,BB,A7,BN,AB,CR,↓reduceIte,Nat.reduceEqDiff,Option.getD_some,Bool.not_false,enP,f3,CB (show k < 9223372036854775807 by omega)]
    exact ⟨n - 1,by omega,k+1,by omega,f1,rfl,trivial,by rw [hf,hs,if_pos hv']⟩
  ·have hk' : ¬ k < m.pts.length:=by simpa using hc
   simp -implicitDefEqProofs only [CU,DR,II,EF,AA,↓reduceIte,Nat.reduceEqDiff]
   exact ⟨f1,trivial,by rw [hf,List.drop_eq_nil_of_le (by omega)]; rfl⟩
 ·rintro F H' ⟨f1,rfl,hf⟩
  have hfull:=full_of hf
  rw [hf,if_neg (fun hh=>hh rfl)] at hme
  simp -implicitDefEqProofs only [A8,BM,AX,AZ,EB,AU,A9,AL,AO,AJ,BA,AR,AC,AQ,BD,A7,↓reduceIte,Option.getD_some,Bool.not_false,f1]
  refine FO 2 (fun F H=>F 1 = .ptr h.length 0 0∧H=H'∧MX (m.pts.map (·.name))=false) (fun F H=>F 2 = .int .i64 (FH m)∧H=H') ?_ ?_ ?_
  ·generalize hN:m.pts.map (·.name)=N at hme ⊢
   have hNl:N.length=m.pts.length:=by rw [← hN]; simp
   have hNi : ∀ i (hi:i < m.pts.length),N[i]? = some m.pts[i].name:=fun i hi=>by rw [← hN,List.getElem?_map,List.getElem?_eq_getElem hi]; rfl
   refine CS (fun n F H => ∃ i,n+i=m.pts.length∧F 1 = .ptr h.length 0 0∧F 5 = .int .i64 (i:Nat)∧H=H'∧MX N=AB2 (N.take i) (N.drop i)) m.pts.length ⟨0,by simp,by simp -implicitDefEqProofs only [AA,↓reduceIte,Nat.reduceEqDiff,f1],by simp -implicitDefEqProofs only [AA,↓reduceIte]; rfl,rfl,rfl⟩ ?_
   clear f1
   rintro n F H' ⟨i,hi,f1,f5,rfl,hd⟩
   simp -implicitDefEqProofs only [A8,AX,BF,AZ,AU,A9,AL,AO,AJ,BA,AR,AC,AA,AY,BB,BL,BN,BG,C8,AB,CO,↓reduceIte,Nat.reduceEqDiff,Nat.add_zero,Option.getD_some,Bool.not_false,enP,OZ,GZ,f1,f5,lm0,List.length_map]
   refine CG (fun hc => ?_) (fun hc => ?_)
   ·have hi':i < m.pts.length:=by simpa using hc
    have hdrop:=OM N i (by omega)
    rw [F4 (hNi i hi')] at hdrop
    simp -implicitDefEqProofs only [A8,BM,AX,BK,AZ,AU,A9,AL,AO,AJ,BA,AR,AC,AQ,BD,A7,Option.getD_some,Bool.not_false,f5]
    refine FO 4 (fun F' H=>F' 1 = .ptr h.length 0 0∧F' 5 = .int .i64 (i:Nat)∧H=H'∧I5 (N.take i) m.pts[i].name=false) (fun F' H=>F' 2 = .int .i64 8∧H=H'∧MX N=true) ?_ ?_ ?_
    ·refine CS (fun n F' H => ∃ k,n+k=i∧F' 1 = .ptr h.length 0 0∧F' 5 = .int .i64 (i:Nat)∧F' 6 = .int .i64 (k:Nat)∧H=H'∧I5 (N.take i) m.pts[i].name=I5 ((N.take i).drop k) m.pts[i].name) i ⟨0,by simp,by simp -implicitDefEqProofs only [AA,↓reduceIte,Nat.reduceEqDiff,f1],by simp -implicitDefEqProofs only [AA,↓reduceIte,Nat.reduceEqDiff,f5],by simp -implicitDefEqProofs only [AA,↓reduceIte]; rfl,rfl,rfl⟩ ?_
     clear f1 f5
     rintro n' F H' ⟨k,hk,f1,f5,f6,rfl,hin⟩
     simp -implicitDefEqProofs only [A8,AX,BF,AZ,AU,A9,AL,AO,AJ,BA,AR,AC,AA,AY,BB,BN,AB,CO,↓reduceIte,Nat.reduceEqDiff,Option.getD_some,Bool.not_false,enP,f5,f6]
     refine CG (fun hc => ?_) (fun hc => ?_)
     ·have hk':k < i:=by simpa using hc
      have hk2:k < m.pts.length:=by omega
      have hs:=KJ (fun u=>m.pts[i].name.toList == u.toList) (N.take i) k (by rw [List.length_take]; omega)
      have hx:(N.take i)[k]'(by rw [List.length_take]; omega)=m.pts[k].name:=by
       rw [List.getElem_take]; exact F4 (hNi k hk2)
      rw [hx] at hs
      simp -implicitDefEqProofs only [A8,BM,BK,AZ]
      refine EG (by kernel_rfl) ?_
      simp -implicitDefEqProofs only [FJ,DT,CZ,EO,DV,ET,EN,GK,DW,DN,BF,AZ,AL,AA,AY,BL,BN,BG,BU,AB,LZ,↓reduceIte,Nat.reduceEqDiff,Nat.reduceAdd,Nat.add_zero,Option.getD_some,enP,MV,GZ,AEQ,f1,f5,f6,lm0,CW hi',CW hk2,CP ag9 hi',CP ag9 hk2,AL0]
      refine CG (fun hb => ?_) (fun hb => ?_)
      ·simp -implicitDefEqProofs only [A8,AX,BJ,AZ,CJ,D6,KC,EZ,AU,A9,AL,AO,AJ,BA,AR,AC,AA,AQ,BD,A7,↓reduceIte,Option.getD_some,Bool.not_false]
       have:I5 (N.take i) m.pts[i].name=true:=by
        rw [hin]; unfold I5; rw [hs,BEq.comm,hb]; rfl
       exact ⟨trivial,trivial,by rw [hd,hdrop,this]; rfl⟩
      ·simp -implicitDefEqProofs only [AX,BK,AZ,DU,DZ,AU,A9,AL,AO,AJ,BA,AR,AC,AA,AY,AQ,BD,BB,A7,BN,AB,CR,↓reduceIte,Nat.reduceEqDiff,Option.getD_some,Bool.not_false,enP,f6,CB (show k < 9223372036854775807 by omega)]
       refine ⟨n' - 1,by omega,k+1,by omega,f1,f5,rfl,trivial,?_⟩
       rw [hin]; unfold I5; rw [hs,BEq.comm,hb]; rfl
     ·have hk' : ¬ k < i:=by simpa using hc
      simp -implicitDefEqProofs only [CU,DR,II,EF,AA,↓reduceIte,Nat.reduceEqDiff]
      refine ⟨f1,f5,trivial,?_⟩
      rw [hin,List.drop_eq_nil_of_le (by rw [List.length_take]; omega)]; rfl
    ·rintro F' H' ⟨g1,g5,rfl,hn⟩
     simp -implicitDefEqProofs only [AX,AZ,DU,EB,DZ,AU,A9,AL,AO,AJ,BA,AR,AC,AA,AY,AQ,BD,BB,A7,BN,AB,CR,↓reduceIte,Nat.reduceEqDiff,Option.getD_some,Bool.not_false,enP,g5,CB (show i < 9223372036854775807 by omega)]
     refine ⟨n - 1,by omega,i+1,by omega,g1,rfl,trivial,?_⟩
     rw [hd,hdrop,hn]; rfl
    ·rintro F' H' ⟨g2,rfl,hdd⟩
     simp -implicitDefEqProofs only [CJ,D6,KC,EZ,g2]
     exact ⟨by rw [hme,hdd]; rfl,trivial⟩
   ·have hi' : ¬ i < m.pts.length:=by simpa using hc
    simp -implicitDefEqProofs only [CU,DR,II,EF,AA,↓reduceIte,Nat.reduceEqDiff]
    exact ⟨f1,trivial,by rw [hd,List.drop_eq_nil_of_le (by omega)]; rfl⟩
  ·clear f1
   rintro F H ⟨f1,rfl,hd⟩
   rw [hd] at hme
   simp only [Bool.false_eq_true,if_false] at hme
   simp -implicitDefEqProofs only [A8,BM,AX,AZ,EB,AU,A9,AL,AO,AJ,BA,AR,AC,AQ,BD,A7,↓reduceIte,Option.getD_some,Bool.not_false]
   refine FO 6 (fun F H'=>F 1 = .ptr h.length 0 0∧H'=H∧JP (GL m) m.crs=0) (fun F H'=>F 2 = .int .i64 (FH m)∧H'=H) ?_ ?_ ?_
   ·refine CS (fun n F H' => ∃ k,n+k=m.crs.length∧F 1 = .ptr h.length 0 0∧F 7 = .int .i64 (k:Nat)∧H'=H∧JP (GL m) m.crs=JP (GL m) (m.crs.drop k)) m.crs.length ⟨0,by simp,by simp -implicitDefEqProofs only [AA,↓reduceIte,Nat.reduceEqDiff,f1],by simp -implicitDefEqProofs only [AA,↓reduceIte]; rfl,rfl,rfl⟩ ?_
    clear f1
    rintro n F H' ⟨k,hk,f1,f7,rfl,hf⟩
    simp -implicitDefEqProofs only [A8,AX,BF,AZ,AU,A9,AL,AO,AJ,BA,AR,AC,AA,AY,BB,BL,BN,BG,C8,AB,CO,↓reduceIte,Nat.reduceEqDiff,Nat.zero_add,Option.getD_some,Bool.not_false,enP,Q5,H7,f1,f7,lm1,List.length_map]
    refine CG (fun hc => ?_) (fun hc => ?_)
    ·have hk':k < m.crs.length:=by simpa using hc
     have hs:=OL (GL m) m.crs k hk'
     simp -implicitDefEqProofs only [A8,BM,BK,AZ]
     refine EG (by kernel_rfl) ?_
     simp -implicitDefEqProofs only [FJ,DT,CZ,EO,DV,ET,GM,EN,DW,DN,FP,FD,A8,AX,AZ,AU,AL,AO,AJ,BA,AR,AC,AA,AY,AQ,BS,BD,BB,BL,BN,BG,BU,AB,List.map_cons,List.map_nil,List.append_nil,↓reduceIte,Nat.reduceEqDiff,Nat.reduceAdd,Nat.zero_add,Option.getD_some,Bool.not_false,enP,P7,H7,f1,f7,lm1,ldM gm,CW hk',ES ABC WE JR hk']
     refine ⟨_,ANV G m m.crs[k] (hm.crs _ (List.getElem_mem hk')) hfull _,?_⟩
     try simp -implicitDefEqProofs only [BF,AZ,A9,AC,AA,AY,AB,ED,↓reduceIte]
     refine CG (fun hv => ?_) (fun hv => ?_)
     ·simp -implicitDefEqProofs only [A8,AX,BJ,AZ,CJ,D6,KC,EZ,AU,A9,AL,AO,AJ,BA,AR,AC,AA,AY,BB,A7,↓reduceIte,Nat.reduceEqDiff,Option.getD_some,Bool.not_false]
      have hv':GL m m.crs[k]≠0:=by simpa using hv
      have:JP (GL m) m.crs=GL m m.crs[k]:=by rw [hf,hs,if_neg hv']
      exact ⟨by rw [hme,this,if_pos hv'],trivial⟩
     ·have hv':GL m m.crs[k]=0:=by simpa using hv
      simp -implicitDefEqProofs only [AX,BK,AZ,DU,DZ,AU,A9,AL,AO,AJ,BA,AR,AC,AA,AY,AQ,BD,BB,A7,BN,AB,CR,↓reduceIte,Nat.reduceEqDiff,Option.getD_some,Bool.not_false,enP,f7,CB (show k < 9223372036854775807 by omega)]
      exact ⟨n - 1,by omega,k+1,by omega,f1,rfl,trivial,by rw [hf,hs,if_pos hv']⟩
    ·have hk' : ¬ k < m.crs.length:=by simpa using hc
     simp -implicitDefEqProofs only [CU,DR,II,EF,AA,↓reduceIte,Nat.reduceEqDiff]
     exact ⟨f1,trivial,by rw [hf,List.drop_eq_nil_of_le (by omega)]; rfl⟩
   ·rintro F H' ⟨f1,rfl,hf⟩
    rw [hf,if_neg (fun hh=>hh rfl)] at hme
    simp -implicitDefEqProofs only [A8,BM,AX,AZ,EB,AU,A9,AL,AO,AJ,BA,AR,AC,AQ,BD,A7,↓reduceIte,Option.getD_some,Bool.not_false]
    generalize hN:m.crs.map (·.name)=N at hme
    have hNl:N.length=m.crs.length:=by rw [← hN]; simp
    have hNi : ∀ i (hi:i < m.crs.length),N[i]? = some m.crs[i].name:=fun i hi=>by rw [← hN,List.getElem?_map,List.getElem?_eq_getElem hi]; rfl
    refine CS (fun n F H => ∃ i,n+i=m.crs.length∧F 1 = .ptr h.length 0 0∧F 9 = .int .i64 (i:Nat)∧H=H'∧MX N=AB2 (N.take i) (N.drop i)) m.crs.length ⟨0,by simp,by simp -implicitDefEqProofs only [AA,↓reduceIte,Nat.reduceEqDiff,f1],by simp -implicitDefEqProofs only [AA,↓reduceIte]; rfl,rfl,rfl⟩ ?_
    clear f1
    rintro n F H' ⟨i,hi,f1,f9,rfl,hd⟩
    simp -implicitDefEqProofs only [A8,AX,BF,AZ,AU,A9,AL,AO,AJ,BA,AR,AC,AA,AY,BB,BL,BN,BG,C8,AB,CO,↓reduceIte,Nat.reduceEqDiff,Nat.zero_add,Option.getD_some,Bool.not_false,enP,Q5,H7,f1,f9,lm1,List.length_map]
    refine CG (fun hc => ?_) (fun hc => ?_)
    ·have hi':i < m.crs.length:=by simpa using hc
     have hdrop:=OM N i (by omega)
     rw [F4 (hNi i hi')] at hdrop
     simp -implicitDefEqProofs only [A8,BM,AX,BK,AZ,AU,A9,AL,AO,AJ,BA,AR,AC,AQ,BD,A7,Option.getD_some,Bool.not_false,f9]
     refine FO 10 (fun F' H=>F' 1 = .ptr h.length 0 0∧F' 9 = .int .i64 (i:Nat)∧H=H'∧I5 (N.take i) m.crs[i].name=false) (fun F' H=>F' 2 = .int .i64 8∧H=H'∧MX N=true) ?_ ?_ ?_
     ·refine CS (fun n F' H => ∃ k,n+k=i∧F' 1 = .ptr h.length 0 0∧F' 9 = .int .i64 (i:Nat)∧F' 10 = .int .i64 (k:Nat)∧H=H'∧I5 (N.take i) m.crs[i].name=I5 ((N.take i).drop k) m.crs[i].name) i ⟨0,by simp,by simp -implicitDefEqProofs only [AA,↓reduceIte,Nat.reduceEqDiff,f1],by simp -implicitDefEqProofs only [AA,↓reduceIte,Nat.reduceEqDiff,f9],by simp -implicitDefEqProofs only [AA,↓reduceIte]; rfl,rfl,rfl⟩ ?_
      clear f1 f9
      rintro n' F H' ⟨k,hk,f1,f9,f10,rfl,hin⟩
      simp -implicitDefEqProofs only [A8,AX,BF,AZ,AU,A9,AL,AO,AJ,BA,AR,AC,AA,AY,BB,BN,AB,CO,↓reduceIte,Nat.reduceEqDiff,Option.getD_some,Bool.not_false,enP,f9,f10]
      refine CG (fun hc => ?_) (fun hc => ?_)
      ·have hk':k < i:=by simpa using hc
       have hk2:k < m.crs.length:=by omega
       have hs:=KJ (fun u=>m.crs[i].name.toList == u.toList) (N.take i) k (by rw [List.length_take]; omega)
       have hx:(N.take i)[k]'(by rw [List.length_take]; omega)=m.crs[k].name:=by
        rw [List.getElem_take]; exact F4 (hNi k hk2)
       rw [hx] at hs
       simp -implicitDefEqProofs only [A8,BM,BK,AZ]
       refine EG (by kernel_rfl) ?_
       simp -implicitDefEqProofs only [FJ,DT,CZ,EO,DV,ET,EN,GK,DW,DN,BF,AZ,AL,AA,AY,BL,BN,BG,BU,AB,LZ,↓reduceIte,Nat.reduceEqDiff,Nat.reduceAdd,Nat.add_zero,Nat.zero_add,Option.getD_some,enP,P7,H7,AEO,f1,f9,f10,lm1,CW hi',CW hk2,CP ag9 hi',CP ag9 hk2,AL1]
       refine CG (fun hb => ?_) (fun hb => ?_)
       ·simp -implicitDefEqProofs only [A8,AX,BJ,AZ,CJ,D6,KC,EZ,AU,A9,AL,AO,AJ,BA,AR,AC,AA,AQ,BD,A7,↓reduceIte,Option.getD_some,Bool.not_false]
        have:I5 (N.take i) m.crs[i].name=true:=by
         rw [hin]; unfold I5; rw [hs,BEq.comm,hb]; rfl
        exact ⟨trivial,trivial,by rw [hd,hdrop,this]; rfl⟩
       ·simp -implicitDefEqProofs only [AX,BK,AZ,DU,DZ,AU,A9,AL,AO,AJ,BA,AR,AC,AA,AY,AQ,BD,BB,A7,BN,AB,CR,↓reduceIte,Nat.reduceEqDiff,Option.getD_some,Bool.not_false,enP,f10,CB (show k < 9223372036854775807 by omega)]
        refine ⟨n' - 1,by omega,k+1,by omega,f1,f9,rfl,trivial,?_⟩
        rw [hin]; unfold I5; rw [hs,BEq.comm,hb]; rfl
      ·have hk' : ¬ k < i:=by simpa using hc
       simp -implicitDefEqProofs only [CU,DR,II,EF,AA,↓reduceIte,Nat.reduceEqDiff]
       refine ⟨f1,f9,trivial,?_⟩
       rw [hin,List.drop_eq_nil_of_le (by rw [List.length_take]; omega)]; rfl
     ·rintro F' H' ⟨g1,g9,rfl,hn⟩
      simp -implicitDefEqProofs only [AX,AZ,DU,EB,DZ,AU,A9,AL,AO,AJ,BA,AR,AC,AA,AY,AQ,BD,BB,A7,BN,AB,CR,↓reduceIte,Nat.reduceEqDiff,Option.getD_some,Bool.not_false,enP,g9,CB (show i < 9223372036854775807 by omega)]
      refine ⟨n - 1,by omega,i+1,by omega,g1,rfl,trivial,?_⟩
      rw [hd,hdrop,hn]; rfl
     ·rintro F' H' ⟨g2,rfl,hdd⟩
      simp -implicitDefEqProofs only [CJ,D6,EZ,CK,g2]
      exact ⟨by rw [hme,hdd]; rfl,hx⟩
    ·have hi' : ¬ i < m.crs.length:=by simpa using hc
     simp -implicitDefEqProofs only [A8,AX,BJ,CU,AZ,DR,EB,EF,CK,AU,A9,AL,AO,AJ,BA,AR,AC,AA,AQ,BD,A7,↓reduceIte,Option.getD_some,Bool.not_false]
     exact ⟨by rw [hme,hd,List.drop_eq_nil_of_le (by omega)]; rfl,hx⟩
   ·rintro F H' ⟨f2,rfl⟩
    simp -implicitDefEqProofs only [CJ,D6,CK,f2]
    exact ⟨trivial,hx⟩
  ·rintro F H ⟨f2,rfl⟩
   simp -implicitDefEqProofs only [CJ,D6,CK,f2]
   exact ⟨trivial,hx⟩
 ·rintro F H' ⟨f2,rfl⟩
  simp -implicitDefEqProofs only [CJ,D6,CK,f2]
  exact ⟨trivial,hx⟩
end Go.Proofs.YtocilianjfhifaaGreatDoor.Cov
/- Equal lists, counts, combinations that count, on both sides; no condition but the bounds on lengths. -/
set_option linter.unusedSimpArgs false
set_option maxRecDepth 8000
namespace Go.Proofs.YtocilianjfhifaaGreatDoor.Cov
open Go Go.Proofs Go.Proofs.YtocilianjfhifaaGreatDoor.Sm Go.Proofs.YtocilianjfhifaaGreatDoor.Bins Go.RowKit

def eqL (a b:List Int):Bool:=decide (a=b)
theorem AAU {a b:List Int} {k:Nat} (ha:k < a.length) (hb:k < b.length):eqL (a.drop k) (b.drop k)=(decide (a[k]=b[k]) && eqL (a.drop (k+1)) (b.drop (k+1))):=by
 rw [List.drop_eq_getElem_cons ha,List.drop_eq_getElem_cons hb]
 unfold eqL
 rw [decide_eq_decide.2 (Iff.of_eq (List.cons.injEq _ _ _ _)),Bool.decide_and]
theorem UY (G:Nat→AV) (a b:List Int) (s t:SM) (h:Hp) (hl:b.length≤1099511627776):PCall (En G) 188 [.sl s 1 (a.map encI),.sl t 1 (b.map encI)] h (.bool (eqL a b)):=by
 refine BX (H:=Hint.none) (enM G) Tryz.func188 rfl (by kernel_rfl) (by kernel_rfl) (Nat.le_of_ble_eq_true (by kernel_rfl)) ?_
 show awp _ _ _ _ _ (EJ _ [.tmp 4] _)
 simp -implicitDefEqProofs only [A8,AX,BF,AZ,AU,A9,AL,AO,AJ,BA,AR,AC,AA,AY,AQ,BI,BB,A7,BN,C8,AB,ED,BC,BP,↓reduceIte,Nat.reduceEqDiff,Option.getD_some,Bool.not_false,enP,GV,List.length_map]
 refine CG (fun h1 => ?_) (fun h1 => ?_)
 ·simp -implicitDefEqProofs only [A8,AX,BJ,AZ,CJ,CK,AU,A9,AL,AO,AJ,BA,AR,AC,AA,AQ,BI,A7,↓reduceIte,Option.getD_some,Bool.not_false]
  have:eqL a b=false:=by
   unfold eqL; rw [decide_eq_false_iff_not]; intro e; subst e; simp at h1
  exact ⟨by rw [this],trivial⟩
 have hab:a.length=b.length:=by simp at h1; omega
 simp -implicitDefEqProofs only [A8,BM,AX,BK,AZ,AU,A9,AL,AO,AJ,BA,AR,AC,AA,AY,AQ,BD,BB,C8,AB,BC,↓reduceIte,Nat.reduceEqDiff,Option.getD_some,Bool.not_false,enP,GV,List.length_map]
 refine CS (fun n F H => ∃ k,n+k=a.length∧F 0 = .sl s 1 (a.map encI)∧F 1 = .sl t 1 (b.map encI)∧F 12 = .int .i64 a.length∧F 13 = .int .i64 (k:Nat)∧H=h∧eqL a b=eqL (a.drop k) (b.drop k)) a.length ⟨0,by simp,by simp -implicitDefEqProofs only [AA,BC,↓reduceIte,Nat.reduceEqDiff],by simp -implicitDefEqProofs only [AA,BC,BP,↓reduceIte,Nat.reduceEqDiff],by simp -implicitDefEqProofs only [AA,↓reduceIte,Nat.reduceEqDiff],by simp -implicitDefEqProofs only [AA,↓reduceIte]; rfl,rfl,rfl⟩ ?_
 rintro n F H ⟨k,hk,f0,f1,f12,f13,rfl,hi⟩
 simp -implicitDefEqProofs only [A8,AX,BF,AZ,AU,A9,AL,AO,AJ,BA,AR,AC,AA,AY,BN,AB,CO,↓reduceIte,Option.getD_some,Bool.not_false,enP,f12,f13]
 refine CG (fun hc => ?_) (fun hc => ?_)
 ·have hk':k < a.length:=by simpa using hc
  have hkb:k < b.length:=by omega
  rw [AAU hk' hkb] at hi
  simp -implicitDefEqProofs only [A8,BM,AX,BK,AZ,AU,A9,AL,AO,AJ,BA,AR,AC,AA,AY,BB,A7,↓reduceIte,Nat.reduceEqDiff,Option.getD_some,Bool.not_false,f13]
  refine EG (by kernel_rfl) ?_
  simp -implicitDefEqProofs only [FJ,DT,CZ,EO,DV,ET,EN,GK,DN,BF,AZ,AL,AA,AY,BL,BN,BU,AB,ED,↓reduceIte,Nat.reduceEqDiff,Nat.reduceAdd,Option.getD_some,enP,IL,f0,f1,f13,CW hk',CW hkb,CP ag3 hk',CP ag3 hkb,encI0]
  refine CG (fun hd => ?_) (fun hd => ?_)
  ·simp -implicitDefEqProofs only [A8,AX,BJ,AZ,CJ,D6,EZ,CK,AU,A9,AL,AO,AJ,BA,AR,AC,AA,AQ,BI,A7,↓reduceIte,Option.getD_some,Bool.not_false]
   have:decide (a[k]=b[k])=false:=by simpa using hd
   exact ⟨by rw [hi,this]; rfl,trivial⟩
  ·simp -implicitDefEqProofs only [AX,BK,AZ,DU,DZ,AU,A9,AL,AO,AJ,BA,AR,AC,AA,AY,AQ,BD,BB,BN,AB,CR,↓reduceIte,Nat.reduceEqDiff,Option.getD_some,Bool.not_false,enP,f13,CB (show k < 9223372036854775807 by omega)]
   have:decide (a[k]=b[k])=true:=by simpa using hd
   exact ⟨n - 1,by omega,k+1,by omega,f0,f1,f12,rfl,trivial,by rw [hi,this]; rfl⟩
 ·have hk' : ¬ k < a.length:=by simpa using hc
  simp -implicitDefEqProofs only [A8,AX,BJ,CU,AZ,DR,EB,EF,CK,AU,A9,AL,AO,AJ,BA,AR,AC,AA,AQ,BI,A7,↓reduceIte,Option.getD_some,Bool.not_false]
  exact ⟨by rw [hi,List.drop_eq_nil_of_le (by omega),List.drop_eq_nil_of_le (by omega)]; rfl,trivial⟩


theorem AIU (G:Nat→AV) (a b:List Int) (s t:SM) (h:Hp) (hl:b.length≤1099511627776):PCall (En G) 148 [.sl s 1 (a.map encI),.sl t 1 (b.map encI)] h (.bool (eqL a b)):=by
 refine BX (H:=Hint.none) (enM G) Tryz.func148 rfl (by kernel_rfl) (by kernel_rfl) (Nat.le_of_ble_eq_true (by kernel_rfl)) ?_
 show awp _ _ _ _ _ (EJ _ [.tmp 4] _)
 simp -implicitDefEqProofs only [A8,AX,BF,AZ,AU,A9,AL,AO,AJ,BA,AR,AC,AA,AY,AQ,BI,BB,A7,BN,C8,AB,ED,BC,BP,↓reduceIte,Nat.reduceEqDiff,Option.getD_some,Bool.not_false,enP,GV,List.length_map]
 refine CG (fun h1 => ?_) (fun h1 => ?_)
 ·simp -implicitDefEqProofs only [A8,AX,BJ,AZ,CJ,CK,AU,A9,AL,AO,AJ,BA,AR,AC,AA,AQ,BI,A7,↓reduceIte,Option.getD_some,Bool.not_false]
  have:eqL a b=false:=by
   unfold eqL; rw [decide_eq_false_iff_not]; intro e; subst e; simp at h1
  exact ⟨by rw [this],trivial⟩
 have hab:a.length=b.length:=by simp at h1; omega
 simp -implicitDefEqProofs only [A8,BM,AX,BK,AZ,AU,A9,AL,AO,AJ,BA,AR,AC,AQ,BD,A7,Option.getD_some,Bool.not_false]
 refine CS (fun n F H => ∃ k,n+k=a.length∧F 0 = .sl s 1 (a.map encI)∧F 1 = .sl t 1 (b.map encI)∧F 5 = .int .i64 (k:Nat)∧H=h∧eqL a b=eqL (a.drop k) (b.drop k)) a.length ⟨0,by simp,by simp -implicitDefEqProofs only [AA,BC,↓reduceIte,Nat.reduceEqDiff],by simp -implicitDefEqProofs only [AA,BC,BP,↓reduceIte,Nat.reduceEqDiff],by simp -implicitDefEqProofs only [AA,↓reduceIte]; rfl,rfl,rfl⟩ ?_
 rintro n F H ⟨k,hk,f0,f1,f5,rfl,hi⟩
 simp -implicitDefEqProofs only [A8,AX,BF,AZ,AU,A9,AL,AO,AJ,BA,AR,AC,AA,AY,BB,BN,C8,AB,CO,↓reduceIte,Nat.reduceEqDiff,Option.getD_some,Bool.not_false,enP,GV,f0,f5,List.length_map]
 refine CG (fun hc => ?_) (fun hc => ?_)
 ·have hk':k < a.length:=by simpa using hc
  have hkb:k < b.length:=by omega
  rw [AAU hk' hkb] at hi
  simp -implicitDefEqProofs only [A8,BM,BK,AZ]
  refine EG (by kernel_rfl) ?_
  simp -implicitDefEqProofs only [FJ,DT,CZ,EO,DV,ET,EN,GK,DN,BF,AZ,AL,AA,AY,BL,BN,BU,AB,ED,↓reduceIte,Nat.reduceEqDiff,Nat.reduceAdd,Option.getD_some,enP,IL,f0,f1,f5,CW hk',CW hkb,CP ag3 hk',CP ag3 hkb,encI0]
  refine CG (fun hd => ?_) (fun hd => ?_)
  ·simp -implicitDefEqProofs only [A8,AX,BJ,AZ,CJ,D6,EZ,CK,AU,A9,AL,AO,AJ,BA,AR,AC,AA,AQ,BI,A7,↓reduceIte,Option.getD_some,Bool.not_false]
   have:decide (a[k]=b[k])=false:=by simpa using hd
   exact ⟨by rw [hi,this]; rfl,trivial⟩
  ·simp -implicitDefEqProofs only [AX,BK,AZ,DU,DZ,AU,A9,AL,AO,AJ,BA,AR,AC,AA,AY,AQ,BD,BB,A7,BN,AB,CR,↓reduceIte,Nat.reduceEqDiff,Option.getD_some,Bool.not_false,enP,f5,CB (show k < 9223372036854775807 by omega)]
   have:decide (a[k]=b[k])=true:=by simpa using hd
   exact ⟨n - 1,by omega,k+1,by omega,f0,f1,rfl,trivial,by rw [hi,this]; rfl⟩
 ·have hk' : ¬ k < a.length:=by simpa using hc
  simp -implicitDefEqProofs only [A8,AX,BJ,CU,AZ,DR,EB,EF,CK,AU,A9,AL,AO,AJ,BA,AR,AC,AA,AQ,BI,A7,↓reduceIte,Option.getD_some,Bool.not_false]
  exact ⟨by rw [hi,List.drop_eq_nil_of_le (by omega),List.drop_eq_nil_of_le (by omega)]; rfl,trivial⟩


theorem AIT (G:Nat→AV) (a b:List Int) (s t:SM) (h:Hp) (hl:b.length≤1099511627776):PCall (En G) 192 [.sl s 1 (a.map encI),.sl t 1 (b.map encI)] h (.bool (eqL a b)):=by
 refine BX (H:=Hint.none) (enM G) Tryz.func192 rfl (by kernel_rfl) (by kernel_rfl) (Nat.le_of_ble_eq_true (by kernel_rfl)) ?_
 show awp _ _ _ _ _ (EJ _ [.tmp 4] _)
 simp -implicitDefEqProofs only [A8,AX,BF,AZ,AU,A9,AL,AO,AJ,BA,AR,AC,AA,AY,AQ,BI,BB,A7,BN,C8,AB,ED,BC,BP,↓reduceIte,Nat.reduceEqDiff,Option.getD_some,Bool.not_false,enP,GV,List.length_map]
 refine CG (fun h1 => ?_) (fun h1 => ?_)
 ·simp -implicitDefEqProofs only [A8,AX,BJ,AZ,CJ,CK,AU,A9,AL,AO,AJ,BA,AR,AC,AA,AQ,BI,A7,↓reduceIte,Option.getD_some,Bool.not_false]
  have:eqL a b=false:=by
   unfold eqL; rw [decide_eq_false_iff_not]; intro e; subst e; simp at h1
  exact ⟨by rw [this],trivial⟩
 have hab:a.length=b.length:=by simp at h1; omega
 simp -implicitDefEqProofs only [A8,BM,AX,BK,AZ,AU,A9,AL,AO,AJ,BA,AR,AC,AQ,BD,A7,Option.getD_some,Bool.not_false]
 refine CS (fun n F H => ∃ k,n+k=a.length∧F 0 = .sl s 1 (a.map encI)∧F 1 = .sl t 1 (b.map encI)∧F 5 = .int .i64 (k:Nat)∧H=h∧eqL a b=eqL (a.drop k) (b.drop k)) a.length ⟨0,by simp,by simp -implicitDefEqProofs only [AA,BC,↓reduceIte,Nat.reduceEqDiff],by simp -implicitDefEqProofs only [AA,BC,BP,↓reduceIte,Nat.reduceEqDiff],by simp -implicitDefEqProofs only [AA,↓reduceIte]; rfl,rfl,rfl⟩ ?_
 rintro n F H ⟨k,hk,f0,f1,f5,rfl,hi⟩
 simp -implicitDefEqProofs only [A8,AX,BF,AZ,AU,A9,AL,AO,AJ,BA,AR,AC,AA,AY,BB,BN,C8,AB,CO,↓reduceIte,Nat.reduceEqDiff,Option.getD_some,Bool.not_false,enP,GV,f0,f5,List.length_map]
 refine CG (fun hc => ?_) (fun hc => ?_)
 ·have hk':k < a.length:=by simpa using hc
  have hkb:k < b.length:=by omega
  rw [AAU hk' hkb] at hi
  simp -implicitDefEqProofs only [A8,BM,BK,AZ]
  refine EG (by kernel_rfl) ?_
  simp -implicitDefEqProofs only [FJ,DT,CZ,EO,DV,ET,EN,GK,DN,BF,AZ,AL,AA,AY,BL,BN,BU,AB,ED,↓reduceIte,Nat.reduceEqDiff,Nat.reduceAdd,Option.getD_some,enP,IL,f0,f1,f5,CW hk',CW hkb,CP ag3 hk',CP ag3 hkb,encI0]
  refine CG (fun hd => ?_) (fun hd => ?_)
  ·simp -implicitDefEqProofs only [A8,AX,BJ,AZ,CJ,D6,EZ,CK,AU,A9,AL,AO,AJ,BA,AR,AC,AA,AQ,BI,A7,↓reduceIte,Option.getD_some,Bool.not_false]
   have:decide (a[k]=b[k])=false:=by simpa using hd
   exact ⟨by rw [hi,this]; rfl,trivial⟩
  ·simp -implicitDefEqProofs only [AX,BK,AZ,DU,DZ,AU,A9,AL,AO,AJ,BA,AR,AC,AA,AY,AQ,BD,BB,A7,BN,AB,CR,↓reduceIte,Nat.reduceEqDiff,Option.getD_some,Bool.not_false,enP,f5,CB (show k < 9223372036854775807 by omega)]
   have:decide (a[k]=b[k])=true:=by simpa using hd
   exact ⟨n - 1,by omega,k+1,by omega,f0,f1,rfl,trivial,by rw [hi,this]; rfl⟩
 ·have hk' : ¬ k < a.length:=by simpa using hc
  simp -implicitDefEqProofs only [A8,AX,BJ,CU,AZ,DR,EB,EF,CK,AU,A9,AL,AO,AJ,BA,AR,AC,AA,AQ,BI,A7,↓reduceIte,Option.getD_some,Bool.not_false]
  exact ⟨by rw [hi,List.drop_eq_nil_of_le (by omega),List.drop_eq_nil_of_le (by omega)]; rfl,trivial⟩


def GR (n:Int):Bool:=decide (0≤n) && decide (n≤1099511627776)
def countB (n:Int) (may:Bool):Bool:=GR n && (may || n == 0)
theorem QX (G:Nat→AV) (n:Int) (h:Hp):PCall (En G) 88 [.int .i64 n] h (.bool (GR n)):=by
 refine BX (H:=Hint.none) (enM G) Tryz.func88 rfl (by kernel_rfl) (by kernel_rfl) (Nat.le_of_ble_eq_true (by kernel_rfl)) ?_
 show awp _ _ _ _ _ (EJ _ [.tmp 2] _)
 simp -implicitDefEqProofs only [A8,AX,AZ,AU,A9,BH,BQ,BZ,AL,AO,AJ,BA,AR,AC,AA,AY,AQ,BD,BI,BB,A7,BN,AB,F3,BC,↓reduceIte,Nat.reduceEqDiff,Option.getD_some,Bool.not_false,enP]
 cases ha:decide (n≥0)
 all_goals
  simp -implicitDefEqProofs only [BJ,AZ,CK,AU,A9,BH,BQ,BZ,FZ,IQ,AL,AO,AJ,BA,AR,AC,AA,EM,AY,AQ,BD,BI,BB,A7,CF,DJ,DK,BN,AB,J9,BC,↓reduceIte,Nat.reduceEqDiff,Option.getD_some,Bool.not_false,enP,ha]
  exact ⟨by unfold GR; rw [show decide (0≤n)=decide (n≥0) from rfl,ha]; rfl,trivial⟩
theorem RB (G:Nat→AV) (n:Int) (may:Bool) (h:Hp):PCall (En G) 126 [.int .i64 n,.bool may] h (.bool (countB n may)):=by
 refine BX (H:=Hint.none) (enM G) Tryz.func126 rfl (by kernel_rfl) (by kernel_rfl) (Nat.le_of_ble_eq_true (by kernel_rfl)) ?_
 show awp _ _ _ _ _ (EJ _ [.tmp 4] _)
 simp -implicitDefEqProofs only [A8,AX,AZ,AU,A9,BH,BQ,BZ,AL,AO,AJ,BA,AR,AC,AA,AY,AQ,BD,BI,BB,A7,BN,AB,F3,BC,↓reduceIte,Nat.reduceEqDiff,Option.getD_some,Bool.not_false,enP]
 cases ha:decide (n≥0) <;> cases hb:decide (n≤1099511627776) <;> cases may
 all_goals
  simp -implicitDefEqProofs only [BJ,AZ,CK,AU,A9,BH,BQ,BZ,FZ,EH,IQ,FN,PE,AL,AO,AJ,BA,AR,AC,AA,EM,AY,AQ,BD,BI,BB,A7,CF,DJ,DK,BN,AB,D9,J9,BC,BP,↓reduceIte,Nat.reduceEqDiff,Option.getD_some,Bool.not_false,enP,ha,hb]
  exact ⟨by unfold countB GR; rw [show decide (0≤n)=decide (n≥0) from rfl,ha,hb]; rfl,trivial⟩
theorem XR (G:Nat→AV) (b:Bin) (h:Hp):PCall (En G) 179 [.agg (JK b)] h (.bool (b.kind == 0)):=by
 refine ACalls.pure0 rfl ?_
 refine BX (H:=Hint.none) (enM G) Tryz.func179 rfl (by kernel_rfl) (by kernel_rfl) (Nat.le_of_ble_eq_true (by kernel_rfl)) ?_
 show awp _ _ _ _ _ (EJ _ [.tmp 2] _)
 simp -implicitDefEqProofs only [A8,AX,BJ,AZ,CK,AU,A9,AL,AO,AJ,BA,AR,AC,AA,AY,AQ,BD,BI,A7,EW,BL,BN,BG,BO,AB,D9,BC,↓reduceIte,Nat.reduceEqDiff,Nat.zero_add,Option.getD_some,Bool.not_false,enP,KZ,bxB,CX ag3,PT]
 exact ⟨trivial,_,rfl⟩
/-- do all bins of a combination count? -/
def SE (m:Mo) (p b:Int):Int:=match (G5 m p)[b.toNat]? with
 | some x=>x.kind
 | none=>0
def KQ (m:Mo):List Int→List Int→Bool
 | p :: ps,b :: bs=>(SE m p b == 0) && KQ m ps bs
 | _,_=>true
def OE (m:Mo) (c:Cr) (l:List Int):Bool:=KQ m c.pts l && !(c.excl.any fun x=>eqL x.l l)
theorem VK {m:Mo} : ∀ {ps l:List Int},KM (szs m ps) l=true→∀ (k:Nat) (hk:k < l.length) (hp:k < ps.length),0≤l[k]∧l[k] < ((G5 m ps[k]).length:Int)
 | p :: ps,b :: bs,h,k,hk,hp=>by
   simp only [szs,List.map_cons,KM,Bool.and_eq_true,decide_eq_true_eq] at h
   cases k with
   | zero=>exact h.1
   | succ k=>exact VK (m:=m) (ps:=ps) h.2 k (by simpa using hk) (by simpa using hp)
 | [],b :: bs,h,k,hk,hp=>by simp at hp
 | _,[],h,k,hk,hp=>by simp at hk
theorem PQ (m:Mo) (ps l:List Int) (k:Nat) (hp:k < ps.length) (hk:k < l.length):KQ m (ps.drop k) (l.drop k)=((SE m ps[k] l[k] == 0) && KQ m (ps.drop (k+1)) (l.drop (k+1))):=by
 rw [List.drop_eq_getElem_cons hp,List.drop_eq_getElem_cons hk]; rfl
theorem Q6 (m:Mo) (ps:List Int):KQ m ps []=true:=by cases ps <;> rfl
/-- a bin of a combination, read -/
theorem AE6 {m:Mo} {p b:Int} (h0:0≤b) (h1:b < ((G5 m p).length:Int)) (h:Hp) (s:SM):KL 4 h (.sl s 4 ((G5 m p).map JK)) (.int .i64 b)=some (.fptr 4 ((G5 m p).map JK) b.toNat 0) :=
 AUQ h0 (by rw [List.length_map]; exact h1)
theorem VZ {m:Mo} {p b:Int} (h0:0≤b) (h1:b < ((G5 m p).length:Int)):((G5 m p)[b.toNat]'(by omega)).kind=SE m p b:=by
 unfold SE; rw [List.getElem?_eq_getElem (by omega)]
theorem ATF (G:Nat→AV) (l:List Int) (s:SM) (b:Nat) (r:Is) (h:Hp) (hb:h[b]? = some (.live 1 [[.sl s 1 (l.map encI)]])) (hl:l.length≤1099511627776) :
  PCall (En G) 221 [.sl r.m 1 (r.l.map encI),.ptr b 0 0] h (.bool (eqL r.l l)):=by
 refine BX (H:=Hint.none) (enM G) Tryz.func221 rfl (by kernel_rfl) (by kernel_rfl) (Nat.le_of_ble_eq_true (by kernel_rfl)) ?_
 show awp _ _ _ _ _ (EJ _ [.tmp 3] _)
 simp -implicitDefEqProofs only [A8,AX,AZ,AU,A9,AL,AO,AJ,BA,AR,AC,AA,AY,AQ,BS,BI,BB,A7,BL,BV,BR,AB,BC,BP,List.map_cons,List.map_nil,List.append_nil,↓reduceIte,Nat.reduceEqDiff,Option.getD_some,Bool.not_false,enP,KG KA hb]
 refine (UY G r.l l r.m s h hl).use ?_
 simp -implicitDefEqProofs only [BJ,AZ,CK,AU,A9,AL,AO,AJ,BA,AR,AC,AA,AY,A7,↓reduceIte,Option.getD_some,Bool.not_false]
 exact ⟨trivial,trivial⟩
end Go.Proofs.YtocilianjfhifaaGreatDoor.Cov
/- Combinations that count, and the combination with a number, on both sides (but cover.tuple); no condition but the bounds on lengths. -/
set_option linter.unusedSimpArgs false
set_option maxRecDepth 8000
namespace Go.Proofs.YtocilianjfhifaaGreatDoor.Cov
open Go Go.Proofs Go.Proofs.YtocilianjfhifaaGreatDoor.Sm Go.Proofs.YtocilianjfhifaaGreatDoor.Bins Go.RowKit

theorem Two.app {h H:Hp} {m:Mo} {c:Cr} {cb:Nat} (t:Two h H m c cb) (x:Hp):Two h (H ++ x) m c cb:=by
 obtain ⟨y,hy⟩:=t.hx
 exact ⟨H6 t.gm,H6 t.gc,⟨y ++ x,by rw [hy,List.append_assoc]⟩⟩
theorem ABW (G:Nat→AV) (m:Mo) (c:Cr) (l:List Int) (s:SM) (h:Hp) (hh:Here m c.pts) (hi:KM (szs m c.pts) l=true) (hl:c.pts.length≤1048576) (hx:c.excl.length≤1048576):PCall (En G) 169 [.agg (DC m),.agg (GH c),.sl s 1 (l.map encI)] h (.bool (OE m c l)):=by
 refine ACalls.pure0 rfl ?_
 have hlen:l.length=c.pts.length:=by have:=NP hi; rw [JE] at this; omega
 refine BX (H:=Hint.none) (enM G) Tryz.func169 rfl (by kernel_rfl) (by kernel_rfl) (Nat.le_of_ble_eq_true (by kernel_rfl)) ?_
 show awp _ _ _ _ _ (EJ _ [.tmp 6] _)
 have t:=(Two.mk' h m c).app [.live 1 [[.sl s 1 (l.map encI)]]]
 have gl:=CQ (h ++ [ABlk.live 2 [DC m]] ++ [ABlk.live 3 [GH c]]) (.live 1 [[.sl s 1 (l.map encI)]])
 simp -implicitDefEqProofs only [AQ1,A8,AX,AZ,AU,A9,AL,AO,AJ,BA,AR,AC,AA,AY,AQ,BI,A7,EW,BL,BO,BC,BP,↓reduceIte,Nat.reduceEqDiff,Option.getD_some,Bool.not_false,enP,bxM,bxC]
 generalize h ++ [ABlk.live 2 [DC m]] ++ [ABlk.live 3 [GH c]] ++ [ABlk.live 1 [[.sl s 1 (l.map encI)]]]=H at t gl ⊢
 generalize (h ++ [ABlk.live 2 [DC m]] ++ [ABlk.live 3 [GH c]]).length=lb at gl ⊢
 generalize (h ++ [ABlk.live 2 [DC m]]).length=cb at t ⊢
 simp -implicitDefEqProofs only [BM,AZ,AU,A9,AL,AO,AJ,BA,AR,AC,AA,AY,AQ,BD,BB,C8,AB,↓reduceIte,Option.getD_some,Bool.not_false,enP,GV,KG KA gl,List.length_map]
 have hkb:=PQ m c.pts l
 refine FO 0 (fun F H'=>F 4 = .ptr cb 0 0∧F 5 = .ptr lb 0 0∧H'=H∧KQ m c.pts l=true) (fun F H'=>F 6 = .bool false∧H'=H∧KQ m c.pts l=false) ?_ ?_ ?_
 ·refine CS (fun n F H' => ∃ k,n+k=l.length∧F 3 = .ptr h.length 0 0∧F 4 = .ptr cb 0 0∧F 5 = .ptr lb 0 0∧F 9 = .sl s 1 (l.map encI)∧F 10 = .int .i64 l.length∧F 11 = .int .i64 (k:Nat)∧H'=H∧KQ m c.pts l=KQ m (c.pts.drop k) (l.drop k)) l.length ⟨0,by simp,by simp -implicitDefEqProofs only [AA,↓reduceIte,Nat.reduceEqDiff],by simp -implicitDefEqProofs only [AA,↓reduceIte,Nat.reduceEqDiff],by simp -implicitDefEqProofs only [AA,↓reduceIte,Nat.reduceEqDiff],by simp -implicitDefEqProofs only [AA,↓reduceIte,Nat.reduceEqDiff],by simp -implicitDefEqProofs only [AA,↓reduceIte,Nat.reduceEqDiff],by simp -implicitDefEqProofs only [AA,↓reduceIte]; rfl,rfl,rfl⟩ ?_
  rintro n F H' ⟨k,hk,f3,f4,f5,f9,f10,f11,rfl,hk0⟩
  simp -implicitDefEqProofs only [A8,AX,BF,AZ,AU,A9,AL,AO,AJ,BA,AR,AC,AA,AY,BN,AB,CO,↓reduceIte,Option.getD_some,Bool.not_false,enP,f10,f11]
  refine CG (fun hc => ?_) (fun hc => ?_)
  ·have hk':k < l.length:=by simpa using hc
   have hkc:k < c.pts.length:=by omega
   rw [hkb k hkc hk'] at hk0
   obtain ⟨h0,h1⟩:=VK hi k hk' hkc
   obtain ⟨s2,ls⟩:=hh.ld hkc H'
   simp -implicitDefEqProofs only [A8,BM,AX,BK,AZ,AU,A9,AL,AO,AJ,BA,AR,AC,AA,AY,BB,A7,BL,BU,AB,↓reduceIte,Nat.reduceEqDiff,Option.getD_some,Bool.not_false,enP,IL,f9,f11,CW hk',CP ag3 hk',encI0]
   refine EG (by kernel_rfl) ?_
   simp -implicitDefEqProofs only [FJ,DT,CZ,DV,ET,EN,ADV,DW,DN,FP,FD,AL,AA,AY,BS,BL,F9,BG,BU,AB,List.map_cons,List.map_nil,List.append_nil,↓reduceIte,Nat.reduceEqDiff,Nat.reduceAdd,Nat.add_zero,Nat.zero_add,Option.getD_some,enP,MV,GZ,VH,HZ,IL,IU,f3,f4,f11,t.lm,t.l1,CW hkc,CP ag3 hkc,encI0,hh.ix hkc,ls,AE6 h0 h1,ES XX R4 K7 (show l[k].toNat < (G5 m c.pts[k]).length by omega)]
   refine ⟨_,XR G _ _,?_⟩
   try simp -implicitDefEqProofs only [CZ,EO,BF,AZ,AA,AY,AB,ER,↓reduceIte]
   rw [VZ h0 h1]
   cases hkd:(SE m c.pts[k] l[k] == 0)
   ·simp -implicitDefEqProofs only [A8,AX,BJ,AZ,CJ,D6,KC,EZ,DI,AU,A9,AL,AO,AJ,BA,AR,AC,AA,AQ,BI,A7,↓reduceIte,Option.getD_some,Bool.not_false]
    exact ⟨trivial,trivial,by rw [hk0,hkd]; rfl⟩
   ·simp -implicitDefEqProofs only [AX,BK,AZ,DU,DZ,DL,AU,A9,AL,AO,AJ,BA,AR,AC,AA,AY,AQ,BD,BB,BN,AB,CR,↓reduceIte,Nat.reduceEqDiff,Option.getD_some,Bool.not_true,Bool.not_false,enP,f11,CB (show k < 9223372036854775807 by omega)]
    exact ⟨n - 1,by omega,k+1,by omega,f3,f4,f5,f9,f10,rfl,trivial,by rw [hk0,hkd]; rfl⟩
  ·have hk' : ¬ k < l.length:=by simpa using hc
   simp -implicitDefEqProofs only [CU,DR,II,EF,AA,↓reduceIte,Nat.reduceEqDiff]
   exact ⟨f4,f5,trivial,by rw [hk0,List.drop_eq_nil_of_le (show l.length≤k by omega),Q6]⟩
 ·rintro F H' ⟨f4,f5,rfl,hk⟩
  simp -implicitDefEqProofs only [A8,AX,AZ,EB,AU,AL,AO,AJ,BA,AR,AC,AA,AY,BS,BL,KO,BG,BV,BR,AB,List.map_cons,List.map_nil,List.append_nil,↓reduceIte,Nat.reduceEqDiff,Nat.zero_add,Option.getD_some,Bool.not_false,enP,NU,f4,f5,t.l2]
  refine (O9 G c.excl c.xm 221 _ (fun x=>eqL x.l l) _ (by omega) fun r=>ATF G l s _ r _ gl (by omega)).use ?_
  simp -implicitDefEqProofs only [BJ,AZ,CK,AU,A9,AL,AO,AJ,BA,AR,AC,AA,AY,A7,F9,AB,ER,↓reduceIte,Option.getD_some,Bool.not_false]
  exact ⟨by unfold OE; rw [hk]; rfl,t.hx⟩
 ·rintro F H' ⟨f6,rfl,hk⟩
  simp -implicitDefEqProofs only [CJ,D6,CK,f6]
  exact ⟨by unfold OE; rw [hk]; rfl,t.hx⟩
theorem AJT (G:Nat→AV) (m:Mo) (c:Cr) (l:List Int) (s:SM) (h:Hp) (hh:Here m c.pts) (hi:KM (szs m c.pts) l=true) (hl:c.pts.length≤1048576) (hx:c.excl.length≤1048576):PCall (En G) 90 [.agg (DC m),.agg (GH c),.sl s 1 (l.map encI)] h (.bool (OE m c l)):=by
 refine ACalls.pure0 rfl ?_
 have hlen:l.length=c.pts.length:=by have:=NP hi; rw [JE] at this; omega
 refine BX (H:=Hint.none) (enM G) Tryz.func90 rfl (by kernel_rfl) (by kernel_rfl) (Nat.le_of_ble_eq_true (by kernel_rfl)) ?_
 show awp _ _ _ _ _ (EJ _ [.tmp 6] _)
 have t:=Two.mk' h m c
 simp -implicitDefEqProofs only [A8,BM,AX,AZ,AU,A9,AL,AO,AJ,BA,AR,AC,AA,AY,AQ,BD,BI,A7,EW,BO,BC,BP,↓reduceIte,Nat.reduceEqDiff,Option.getD_some,Bool.not_false,enP,bxM,bxC]
 generalize h ++ [ABlk.live 2 [DC m]] ++ [ABlk.live 3 [GH c]]=H at t ⊢
 generalize (h ++ [ABlk.live 2 [DC m]]).length=cb at t ⊢
 have hkb:=PQ m c.pts l
 refine FO 0 (fun F H'=>F 2 = .sl s 1 (l.map encI)∧F 3 = .ptr h.length 0 0∧F 4 = .ptr cb 0 0∧H'=H∧(c.excl.any fun x=>eqL x.l l)=false) (fun F H'=>F 6 = .bool false∧H'=H∧(c.excl.any fun x=>eqL x.l l)=true) ?_ ?_ ?_
 ·refine CS (fun n F H' => ∃ k,n+k=c.excl.length∧F 2 = .sl s 1 (l.map encI)∧F 3 = .ptr h.length 0 0∧F 4 = .ptr cb 0 0∧F 7 = .int .i64 (k:Nat)∧H'=H∧(c.excl.any fun x=>eqL x.l l)=((c.excl.drop k).any fun x=>eqL x.l l)) c.excl.length ⟨0,by simp,by simp -implicitDefEqProofs only [AA,BC,BP,↓reduceIte,Nat.reduceEqDiff],by simp -implicitDefEqProofs only [AA,↓reduceIte,Nat.reduceEqDiff],by simp -implicitDefEqProofs only [AA,↓reduceIte,Nat.reduceEqDiff],by simp -implicitDefEqProofs only [AA,↓reduceIte]; rfl,rfl,rfl⟩ ?_
  rintro n F H' ⟨k,hk,f2,f3,f4,f7,rfl,ha⟩
  simp -implicitDefEqProofs only [A8,AX,BF,AZ,AU,A9,AL,AO,AJ,BA,AR,AC,AA,AY,BB,BL,BN,BG,C8,AB,CO,↓reduceIte,Nat.reduceEqDiff,Nat.zero_add,Option.getD_some,Bool.not_false,enP,WM,NU,f4,f7,t.l2,List.length_map]
  refine CG (fun hc => ?_) (fun hc => ?_)
  ·have hk':k < c.excl.length:=by simpa using hc
   have hs:=KJ (fun x:Is=>eqL x.l l) c.excl k hk'
   simp -implicitDefEqProofs only [A8,BM,AX,BK,AZ,AU,AL,AO,AJ,BA,AR,AC,AA,AY,BS,BB,BL,BG,BU,BV,BR,AB,List.map_cons,List.map_nil,List.append_nil,↓reduceIte,Nat.reduceEqDiff,Nat.zero_add,Option.getD_some,Bool.not_false,enP,PK,NU,f2,f4,f7,t.l2,CW hk',CP KA hk',LH]
   refine (AIU G c.excl[k].l l _ s _ (by omega)).use ?_
   simp -implicitDefEqProofs only [BF,AZ,A9,AC,AA,AY,↓reduceIte]
   cases he:eqL c.excl[k].l l
   ·simp -implicitDefEqProofs only [AX,BK,AZ,DU,DZ,DL,AU,A9,AL,AO,AJ,BA,AR,AC,AA,AY,AQ,BD,BB,A7,BN,AB,CR,↓reduceIte,Nat.reduceEqDiff,Option.getD_some,Bool.not_false,enP,f7,CB (show k < 9223372036854775807 by omega)]
    exact ⟨n - 1,by omega,k+1,by omega,f2,f3,f4,rfl,trivial,by rw [ha,hs,he]; rfl⟩
   ·simp -implicitDefEqProofs only [A8,AX,BJ,AZ,CJ,D6,KC,EZ,DI,AU,A9,AL,AO,AJ,BA,AR,AC,AA,AQ,BI,A7,↓reduceIte,Option.getD_some,Bool.not_false]
    exact ⟨trivial,trivial,by rw [ha,hs,he]; rfl⟩
  ·have hk' : ¬ k < c.excl.length:=by simpa using hc
   simp -implicitDefEqProofs only [CU,DR,II,EF,AA,↓reduceIte,Nat.reduceEqDiff]
   exact ⟨f2,f3,f4,trivial,by rw [ha,List.drop_eq_nil_of_le (by omega)]; rfl⟩
 ·rintro F H' ⟨f2,f3,f4,rfl,ha⟩
  have hhb:OE m c l=KQ m c.pts l:=by unfold OE; rw [ha]; simp
  rw [hhb]
  simp -implicitDefEqProofs only [A8,BM,AX,AZ,EB,AU,A9,AL,AO,AJ,BA,AR,AC,AQ,BD,A7,↓reduceIte,Option.getD_some,Bool.not_false]
  refine CS (fun n F H => ∃ k,n+k=l.length∧F 2 = .sl s 1 (l.map encI)∧F 3 = .ptr h.length 0 0∧F 4 = .ptr cb 0 0∧F 8 = .int .i64 (k:Nat)∧H=H'∧KQ m c.pts l=KQ m (c.pts.drop k) (l.drop k)) l.length ⟨0,by simp,by simp -implicitDefEqProofs only [AA,↓reduceIte,Nat.reduceEqDiff,f2],by simp -implicitDefEqProofs only [AA,↓reduceIte,Nat.reduceEqDiff,f3],by simp -implicitDefEqProofs only [AA,↓reduceIte,Nat.reduceEqDiff,f4],by simp -implicitDefEqProofs only [AA,↓reduceIte]; rfl,rfl,rfl⟩ ?_
  clear f2 f3 f4
  rintro n F H' ⟨k,hk,f2,f3,f4,f8,rfl,hk0⟩
  simp -implicitDefEqProofs only [A8,AX,BF,AZ,AU,A9,AL,AO,AJ,BA,AR,AC,AA,AY,BB,BN,C8,AB,CO,↓reduceIte,Nat.reduceEqDiff,Option.getD_some,Bool.not_false,enP,GV,f2,f8,List.length_map]
  refine CG (fun hc => ?_) (fun hc => ?_)
  ·have hk':k < l.length:=by simpa using hc
   have hkc:k < c.pts.length:=by omega
   rw [hkb k hkc hk'] at hk0
   obtain ⟨h0,h1⟩:=VK hi k hk' hkc
   obtain ⟨s2,ls⟩:=hh.ld hkc H'
   have hlt:l[k].toNat < (G5 m c.pts[k]).length:=by omega
   simp -implicitDefEqProofs only [A8,BM,BK,AZ]
   refine EG (by kernel_rfl) ?_
   simp -implicitDefEqProofs only [FJ,DT,CZ,EO,DV,ET,EN,GK,DW,DN,BF,AZ,AL,AA,AY,AQ,BD,BL,BN,BG,BU,AB,ED,↓reduceIte,Nat.reduceEqDiff,Nat.reduceAdd,Nat.add_zero,Nat.zero_add,Option.getD_some,enP,MV,GZ,VH,HZ,IL,IU,KZ,bne,f2,f3,f4,f8,t.lm,t.l1,CW hkc,CP ag3 hkc,CW hk',CP ag3 hk',encI0,hh.ix hkc,ls,AE6 h0 h1,CP ag3 hlt,PT,VZ h0 h1]
   cases hkd:(SE m c.pts[k] l[k] == 0)
   ·simp -implicitDefEqProofs only [A8,AX,BJ,AZ,CJ,D6,EZ,CK,DI,AU,A9,AL,AO,AJ,BA,AR,AC,AA,AQ,BI,A7,↓reduceIte,Option.getD_some,Bool.not_false]
    exact ⟨by rw [hk0,hkd]; rfl,t.hx⟩
   ·simp -implicitDefEqProofs only [AX,BK,AZ,DU,DZ,DL,AU,A9,AL,AO,AJ,BA,AR,AC,AA,AY,AQ,BD,BB,A7,BN,AB,CR,↓reduceIte,Nat.reduceEqDiff,Option.getD_some,Bool.not_true,Bool.not_false,enP,f8,CB (show k < 9223372036854775807 by omega)]
    exact ⟨n - 1,by omega,k+1,by omega,f2,f3,f4,rfl,trivial,by rw [hk0,hkd]; rfl⟩
  ·have hk' : ¬ k < l.length:=by simpa using hc
   simp -implicitDefEqProofs only [A8,AX,BJ,CU,AZ,DR,EB,EF,CK,AU,A9,AL,AO,AJ,BA,AR,AC,AA,AQ,BI,A7,↓reduceIte,Option.getD_some,Bool.not_false]
   exact ⟨by rw [hk0,List.drop_eq_nil_of_le (show l.length≤k by omega),Q6],t.hx⟩
 ·rintro F H' ⟨f6,rfl,ha⟩
  simp -implicitDefEqProofs only [CJ,D6,CK,f6]
  exact ⟨by unfold OE; rw [ha]; simp,t.hx⟩
end Go.Proofs.YtocilianjfhifaaGreatDoor.Cov
/- The combination with a number: the reference's Tuple of layer 46; no condition but the bounds on lengths. -/
set_option linter.unusedSimpArgs false
set_option maxRecDepth 8000
namespace Go.Proofs.YtocilianjfhifaaGreatDoor.Cov
open Go Go.Proofs Go.Proofs.YtocilianjfhifaaGreatDoor.Sm Go.Proofs.YtocilianjfhifaaGreatDoor.Bins Go.RowKit

theorem Y0 (xs:List Nat):xs.map EU=(xs.map fun n:Nat=>(n:Int)).map encI:=by
 rw [List.map_map]; rfl
/-- the digits, and what is left -/
def tupF:List Nat→Nat→List Nat × Nat
 | [],k=>([],k)
 | n :: ns,k=>(((tupF ns k).2 % n) :: (tupF ns k).1,(tupF ns k).2 / n)
def L9 (ns:List Nat) (k:Nat):List Int:=(tupF ns k).1.map fun n:Nat=>(n:Int)
theorem LP : ∀ (ns:List Nat) (k:Nat),(tupF ns k).1.length=ns.length
 | [],_=>rfl
 | n :: ns,k=>by simp [tupF,LP ns k]
theorem YG : ∀ (ns:List Nat) (k:Nat),(tupF ns k).2≤k
 | [],_=>Nat.le_refl _
 | _ :: ns,k=>Nat.le_trans (Nat.div_le_self _ _) (YG ns k)
theorem R3 : ∀ (ns:List Nat) (k:Nat),(∀ n∈ns,1≤n)→KM ns (L9 ns k)=true
 | [],_,_=>rfl
 | n :: ns,k,h=>by
   have h1:=h n (by simp)
   have ih:=R3 ns k (fun x hx=>h x (by simp [hx]))
   have h2:(tupF ns k).2 % n < n:=Nat.mod_lt _ (by omega)
   show KM (n :: ns) (((tupF ns k).2 % n:Nat) :: L9 ns k)=true
   unfold KM
   rw [ih]
   simp; omega
theorem tup_step {ns:List Nat} {K j:Nat} (hj:j < ns.length):tupF (ns.drop j) K=(((tupF (ns.drop (j+1)) K).2 % ns[j]) :: (tupF (ns.drop (j+1)) K).1,(tupF (ns.drop (j+1)) K).2 / ns[j]):=by
 rw [List.drop_eq_getElem_cons hj]; rfl
theorem ZF {α:Type} {f:α→List AV} {pre out:List α} {j:Nat} {x:α} (hj:j < pre.length):((pre.take (j+1) ++ out).map f).set j (f x)=(pre.take j ++ x :: out).map f:=by
 rw [List.take_succ_eq_append_getElem hj,List.append_assoc]
 simp only [List.map_append,List.map_cons,List.map_nil,List.singleton_append]
 rw [List.set_append_right _ _ (by simp; omega)]
 simp [Nat.min_eq_left (Nat.le_of_lt hj)]
theorem AST (h:Hp) (n:Nat) (hn:n≤1048576):IY Tryz.prog true h 57 (.int .i64 (n:Int)) (.int .i64 (n:Int))=some (.own h.length 0 n,h ++ [.live 1 ((List.replicate n 0).map EU)]):=by
 have hz:L8 Tryz.prog 3=some [.int .i64 0]:=by kernel_rfl
 have hr:room n 8:=JY (by omega) (by omega)
 unfold IY
 simp only [ML,sz3,RF,hz,Int.toNat_natCast]
 rw [if_pos ⟨by omega,Int.le_refl _,hr,rfl⟩]
 simp [EU]
theorem AIN {h:Hp} {o j:Nat} {rows:List (List AV)} {x:Nat} (ho:h[o]? = some (.live 1 rows)) (hj : ∃ v,rows[j]? = some [v]):FQ Tryz.prog h 3 (.ptr o j 0) (.int .i64 (x:Int))=some (h.set o (.live 1 (rows.set j (EU x)))):=by
 obtain ⟨v,hv⟩:=hj
 rw [KV (RG _ _) sz3 ho hv (by simp)]; rfl
theorem YK (a b:Nat) (hb:0 < b):KY Tryz.prog 3 .rem (.int .i64 (a:Int)) (.int .i64 (b:Int))=some (.int .i64 ((a % b:Nat):Int)):=by
 rw [AE5 _ _ _ _ _ (by omega),Int.tmod_eq_emod_of_nonneg (by omega)]; rfl
theorem AD7 (a b:Nat) (hb:0 < b) (ha:a≤9223372036854775807):KY Tryz.prog 3 .quo (.int .i64 (a:Int)) (.int .i64 (b:Int))=some (.int .i64 ((a / b:Nat):Int)):=by
 have h1:((a:Int).tdiv (b:Int))=((a / b:Nat):Int):=by rw [Int.tdiv_eq_ediv_of_nonneg (by omega)]; rfl
 have h2:=Nat.div_le_self a b
 rw [ATT _ _ _ _ _ (by omega),h1,RY (by omega)]
theorem AML (G:Nat→AV) (m:Mo) (c:Cr) (K:Nat) (h:Hp) (hh:Here m c.pts) (hf:Full m) (h0:0 < c.pts.length) (hl:c.pts.length≤1048576) (hK:K≤1048576):PCall (En G) 91 [.agg (DC m),.agg (GH c),.int .i64 (K:Int)] h (.sl .any 1 ((L9 (szs m c.pts) K).map encI)):=by
 have hs:=hf.szs hh
 have hsl:=JE m c.pts
 have hgo:ACalls (En G) 91 [.agg (DC m),.agg (GH c),.int .i64 (K:Int)] h fun v H=>ext h H∧outG 1 EU h (tupF (szs m c.pts) K).1 v H:=by
  refine BX (H:=Hint.none) (enM G) Tryz.func91 rfl (by kernel_rfl) (by kernel_rfl) (Nat.le_of_ble_eq_true (by kernel_rfl)) ?_
  show awp _ _ _ _ _ (EJ _ [.tmp 6] _)
  have t:=Two.mk' h m c
  have hlt:h.length≤(h ++ [ABlk.live 2 [DC m]] ++ [ABlk.live 3 [GH c]]).length:=by simp
  have he0:ext h (h ++ [ABlk.live 2 [DC m]] ++ [ABlk.live 3 [GH c]]):=((ext.rfl' h).app _).app _
  simp -implicitDefEqProofs only [A8,AX,AZ,AU,A9,AL,AO,AJ,BA,AR,AC,AA,AY,AQ,EX,A7,EW,BL,BG,BO,AB,BC,BP,↓reduceIte,Nat.reduceEqDiff,Nat.zero_add,Option.getD_some,Bool.not_false,enP,IU,bxM,bxC]
  generalize h ++ [ABlk.live 2 [DC m]] ++ [ABlk.live 3 [GH c]]=H at t hlt he0 ⊢
  generalize (h ++ [ABlk.live 2 [DC m]]).length=cb at t ⊢
  have t2:Two h (H ++ [.live 1 ((List.replicate c.pts.length 0).map EU)]) m c cb:=t.app _
  simp -implicitDefEqProofs only [A8,BM,AX,AZ,AU,A9,AL,AO,AJ,BA,AR,AC,AA,AY,AQ,BD,A7,BL,BN,I9,BG,C8,BO,AB,J8,↓reduceIte,Nat.reduceEqDiff,Nat.zero_add,Option.getD_some,Bool.not_false,enP,GV,IU,t.l1,List.length_map,AST _ _ hl,t2.l1]
  rw [wrap_i64 (n:=(c.pts.length:Int) - 1) (by omega) (by omega)]
  refine CS (fun n F H' => ∃ j,n=j∧j≤c.pts.length∧F 3 = .ptr h.length 0 0∧F 4 = .ptr cb 0 0∧F 7 = .own H.length 0 c.pts.length∧F 8 = .int .i64 ((j:Int) - 1)∧F 2 = .int .i64 ((tupF ((szs m c.pts).drop j) K).2:Nat)∧Two h H' m c cb∧ext h H'∧H'[H.length]? = some (.live 1 (((List.replicate c.pts.length 0).take j ++ (tupF ((szs m c.pts).drop j) K).1).map EU))) c.pts.length ⟨c.pts.length,rfl,Nat.le_refl _,by simp -implicitDefEqProofs only [AA,↓reduceIte,Nat.reduceEqDiff],by simp -implicitDefEqProofs only [AA,↓reduceIte,Nat.reduceEqDiff],by simp -implicitDefEqProofs only [AA,↓reduceIte,Nat.reduceEqDiff],by simp -implicitDefEqProofs only [AA,↓reduceIte],by simp -implicitDefEqProofs only [AA,BC,BP,↓reduceIte,Nat.reduceEqDiff]; rw [List.drop_eq_nil_of_le (by omega)]; rfl,t2,he0.app _,?_⟩ ?_
  ·rw [List.drop_eq_nil_of_le (by omega),List.take_of_length_le (by simp)]
   simp only [tupF,List.append_nil]
   exact CQ _ _
  rintro n F H' ⟨j,rfl,hj,f3,f4,f7,f8,f2,t',he,ho⟩
  simp -implicitDefEqProofs only [A8,AX,BF,AZ,AU,A9,AL,AO,AJ,BA,AR,AC,AA,AY,AQ,BD,BB,BN,AB,F3,↓reduceIte,Option.getD_some,Bool.not_false,enP,f8]
  cases n with
  | zero =>
    have:decide ((((0:Nat):Int) - 1)≥0)=false:=by decide
    simp -implicitDefEqProofs only [A8,AX,BJ,CU,AZ,DR,EB,EF,CK,DL,AU,A9,AL,AO,AJ,BA,AR,AC,AA,AY,BB,A7,↓reduceIte,Nat.reduceEqDiff,Option.getD_some,Bool.not_false,this,f7]
    rw [List.take_zero,List.nil_append,List.drop_zero] at ho
    refine ⟨he,.inr ⟨?_,H.length,hlt,by rw [LP,hsl],ho⟩⟩
    intro e
    have:=LP (szs m c.pts) K
    rw [e] at this; simp at this; omega
  | succ j =>
    have hd:decide ((((j+1:Nat):Int) - 1)≥0)=true:=by simp
    have hj':j < c.pts.length:=by omega
    have hjs:j < (szs m c.pts).length:=by omega
    have hgt:(szs m c.pts)[j]=(G5 m c.pts[j]).length:=F4 (TG m c.pts j hj')
    have h1:=(hs _ (List.getElem_mem hjs)).1
    rw [hgt] at h1
    obtain ⟨s,ls⟩:=hh.ld hj' H'
    have e1:(((j+1:Nat):Int) - 1)=(j:Int):=by omega
    have hst:=tup_step (K:=K) hjs
    rw [hgt] at hst
    have hle:=YG ((szs m c.pts).drop (j+1)) K
    generalize hr:(tupF ((szs m c.pts).drop (j+1)) K)=r at ho f2 hst hle
    have hrow : ∃ v,(((List.replicate c.pts.length 0).take (j+1) ++ r.1).map EU)[j]? = some [v]:=by
     refine ⟨.int .i64 0,?_⟩
     rw [List.getElem?_map,List.getElem?_append_left (by simp; omega),List.getElem?_take_of_lt (by omega),List.getElem?_replicate_of_lt hj']
     rfl
    have hset:=ZF (f:=EU) (pre:=List.replicate c.pts.length 0) (out:=r.1) (j:=j) (x:=r.2 % (G5 m c.pts[j]).length) (by simpa using hj')
    have hlo:=CE ho
    simp -implicitDefEqProofs only [A8,BM,BK,AZ,DI,hd]
    refine EG (by kernel_rfl) ?_
    simp -implicitDefEqProofs only [FJ,DT,CZ,EO,DV,ET,GM,EN,DW,DN,FX,A8,AX,AZ,DU,DZ,AU,A9,AL,AO,AJ,BA,AR,AC,EQ,AA,AY,AQ,BD,BB,A7,BL,EC,BN,BG,BU,C8,AB,DF,J8,↓reduceIte,Nat.reduceEqDiff,Nat.reduceAdd,Nat.add_zero,Nat.zero_add,Option.getD_some,Bool.not_false,enP,MV,GZ,PI,HZ,IL,IU,Option.getD_none,f2,f3,f4,f7,f8,e1,t'.lm,t'.l1,CW hj',CP ag3 hj',encI0,hh.ix hj',ls,List.length_map,Q7 ho hj',YK _ _ h1,AD7 _ _ h1 (show r.2≤9223372036854775807 by omega),AIN ho hrow,hset]
    refine ⟨j,by omega,j,rfl,by omega,trivial,trivial,trivial,?_,?_,⟨EP t'.gm ?_,EP t'.gc ?_,?_⟩,he.set hlt _,?_⟩
    ·rw [wrap_i64 (by omega) (by omega)]
    ·rw [hst]
    ·exact Nat.ne_of_lt (CE t.gm)
    ·exact Nat.ne_of_lt (CE t.gc)
    ·exact he.set hlt _
    ·rw [hst]; exact EI ho
 have hp:=LA ANG hgo
 have hne:(tupF (szs m c.pts) K).1≠[]:=by
  intro e
  have:=LP (szs m c.pts) K
  rw [e] at this; simp at this; omega
 rw [Y0] at hp
 have hnm:nm (tupF (szs m c.pts) K).1=SM.any:=by
  cases hx:(tupF (szs m c.pts) K).1 with
  | nil=>exact absurd hx hne
  | cons a l=>rfl
 rw [hnm] at hp
 exact hp
end Go.Proofs.YtocilianjfhifaaGreatDoor.Cov
