/- Joined by wip/bundle.py: XPlc0 XMot0 XEngH3c XMot1. -/
import Derived.Test.YtpfemjpgbpnpkaaGreatDoorBForeA
import Derived.Test.YtpfemjpgbpnpkaaGreatDoorBGrpH
import Derived.Test.YtpfemjpgbpnpkaaGreatDoorBGrpL
import Derived.Test.YtpfemjpgbpnpkaaGreatDoorBGrpV
import Derived.Test.YtpfemjpgbpnpkaaGreatDoorBEngH3b
set_option maxRecDepth 100000
namespace Go.Proofs.YtpfemjpgbpnpkaaGreatDoor.eng
open Go.RowKit num mem seg q held ratA ratB ratC ratD ratE vars ratF trq
def putQ (f:RF) (x y:Rat):Rat×Rat:=(f.x+f.c*x - f.s*y,f.y+f.s*x+f.c*y)
theorem Zpr {f:RF} (hu:f.u) (a b c:poly.Pt):poly.ori (putQ f a.1 a.2) (putQ f b.1 b.2) (putQ f c.1 c.2)=poly.ori a b c:=by
 unfold RF.u unitC at hu
 unfold poly.ori putQ
 simp only
 grind
theorem Zsh {l:List (RV×RV)} (h:convE 8 l=0):convE 64 l=0:=by
 obtain⟨h1,h2,h3⟩:=ZaM.1 h
 exact ZaM.2 ⟨by omega,h2,h3⟩
def sepB (a b:List (RV×RV)):Bool:=(bey a b).isSome||(bey b a).isSome
theorem Zje {a b:List (RV×RV)}:sepB a b=true↔poly.Beyond (pts a) a.length (pts b) b.length∨poly.Beyond (pts b) b.length (pts a) a.length:=by
 unfold sepB;rw [Bool.or_eq_true,Zj4,Zj4]
theorem Zeb {a b:List (RV×RV)} (ha:convE 64 a=0) (hb:convE 64 b=0):bothE a b=0∧meetB a b=!sepB a b:=by
 have h:=Zql.2 ⟨ha,hb⟩
 refine⟨h,?_⟩
 unfold meetB sepB
 rw [h]
 cases bey a b<;>cases bey b a<;>rfl
theorem Zne {q:Rat} {l:List Rat} {a:Rat} (h:a=q∨a∈l):lowL q l≤a:=by
 rcases h with rfl|h
 ·exact(ZbM _ _).1
 ·exact(ZbM _ _).2 _ h
theorem ZjL {q:Rat} {l:List Rat} {a:Rat} (h:a=q∨a∈l):a≤highL q l:=by
 rcases h with rfl|h
 ·exact(ZaL _ _).1
 ·exact(ZaL _ _).2 _ h
theorem ZeL {l:List (RV×RV)} {p:RV×RV} (h:p∈l):(bx1 l≤p.1.q∧p.1.q≤bx3 l)∧(bx2 l≤p.2.q∧p.2.q≤bx4 l):=by
 cases l with
 |nil=>simp at h
 |cons a r=>
  have hx:p.1.q=a.1.q∨p.1.q∈xsQ r:=by
   rcases List.mem_cons.1 h with rfl|h
   ·exact .inl rfl
   ·exact .inr (List.mem_map.2 ⟨p,h,rfl⟩)
  have hy:p.2.q=a.2.q∨p.2.q∈ysQ r:=by
   rcases List.mem_cons.1 h with rfl|h
   ·exact .inl rfl
   ·exact .inr (List.mem_map.2 ⟨p,h,rfl⟩)
  exact⟨⟨Zne hx,ZjL hx⟩,⟨Zne hy,ZjL hy⟩⟩
theorem bx_z {l:List (RV×RV)} {B:Nat} (hl:∀ p,p∈l→p.1.z≤B∧p.2.z≤B):(qs (bx1 l)≤B+1∧qs (bx2 l)≤B+1)∧qs (bx3 l)≤B+1∧qs (bx4 l)≤B+1:=by
 cases l with
 |nil=>exact⟨⟨Nat.le_trans (by decide+kernel:qs 0≤1) (by omega),Nat.le_trans (by decide+kernel:qs 0≤1) (by omega)⟩,Nat.le_trans (by decide+kernel:qs 0≤1) (by omega),Nat.le_trans (by decide+kernel:qs 0≤1) (by omega)⟩
 |cons a r=>
  have h0:=hl a (by simp)
  have ha:=a.1.z1
  have hb:=a.2.z1
  have hx:∀ q,q∈a.1.q :: xsQ r→qs q≤B+1:=by
   intro q hq
   rcases List.mem_cons.1 hq with rfl|hq
   ·omega
   ·obtain⟨p,hp,rfl⟩:=List.mem_map.1 hq
    have:=hl p (List.mem_cons_of_mem _ hp);have:=p.1.z1;omega
  have hy:∀ q,q∈a.2.q :: ysQ r→qs q≤B+1:=by
   intro q hq
   rcases List.mem_cons.1 hq with rfl|hq
   ·omega
   ·obtain⟨p,hp,rfl⟩:=List.mem_map.1 hq
    have:=hl p (List.mem_cons_of_mem _ hp);have:=p.2.z1;omega
  exact⟨⟨Zbu hx,Zbu hy⟩,ZaK hx,ZaK hy⟩
theorem ZfP {l:List (RV×RV)} {i:Nat} (hi:i< l.length):∃ p,p∈l∧pts l i=(p.1.q,p.2.q):=by
 obtain⟨v,hv⟩:∃ v,l[i]? =some v:=⟨_,List.getElem?_eq_getElem hi⟩
 exact⟨v,List.mem_of_getElem? hv,Z2 hv⟩
theorem ZgK {a b:List (RV×RV)} (ca:convE 64 a=0) (cb:convE 64 b=0) (h:¬ bxMeet (cn (bx1 a)) (cn (bx2 a)) (cn (bx3 a)) (cn (bx4 a)) (cn (bx1 b)) (cn (bx2 b)) (cn (bx3 b)) (cn (bx4 b))):sepB a b=true:=by
 obtain⟨_,a3,aE⟩:=ZaM.1 ca
 obtain⟨_,b3,bE⟩:=ZaM.1 cb
 have line:∀ N:poly.Pt,(∀ p q,p∈a→q∈b→0< N.1*(q.1.q - p.1.q)+N.2*(q.2.q - p.2.q))→sepB a b=true:=by
  intro N hN
  refine Zje.2 (poly.beyond_of_line (N:=N) aE bE (by omega) (by omega) fun i j hi hj=> ?_)
  obtain⟨p,hp,ep⟩:=ZfP hi
  obtain⟨q,hq,eq⟩:=ZfP hj
  rw [ep,eq]
  exact hN p q hp hq
 have line':∀ N:poly.Pt,(∀ p q,p∈a→q∈b→0< N.1*(p.1.q - q.1.q)+N.2*(p.2.q - q.2.q))→sepB a b=true:=by
  intro N hN
  refine line (-N.1,-N.2) fun p q hp hq=> ?_
  have:=hN p q hp hq
  simp only;grind
 obtain⟨p0,hp0,_⟩:=ZfP (l:=a) (i:=0) (by omega)
 obtain⟨q0,hq0,_⟩:=ZfP (l:=b) (i:=0) (by omega)
 have oka:bxOk (cn (bx1 a)) (cn (bx2 a)) (cn (bx3 a)) (cn (bx4 a)):=by
  obtain⟨⟨h1,h2⟩,h3,h4⟩:=ZeL hp0
  unfold bxOk;simp only [cn_q];exact⟨Rat.le_trans h1 h2,Rat.le_trans h3 h4⟩
 have okb:bxOk (cn (bx1 b)) (cn (bx2 b)) (cn (bx3 b)) (cn (bx4 b)):=by
  obtain⟨⟨h1,h2⟩,h3,h4⟩:=ZeL hq0
  unfold bxOk;simp only [cn_q];exact⟨Rat.le_trans h1 h2,Rat.le_trans h3 h4⟩
 unfold bxMeet at h
 simp only [cn_q] at h
 by_cases c1:bx1 a≤bx3 b
 ·by_cases c2:bx1 b≤bx3 a
  ·by_cases c3:bx2 a≤bx4 b
   ·by_cases c4:bx2 b≤bx4 a
    ·exact absurd ⟨oka,okb,c1,c2,c3,c4⟩ h
    ·refine line (0,1) fun p q hp hq=> ?_
     have:=(ZeL hp).2.2;have:=(ZeL hq).2.1;have:=Rat.not_le.1 c4
     simp only;grind
   ·refine line' (0,1) fun p q hp hq=> ?_
    have:=(ZeL hp).2.1;have:=(ZeL hq).2.2;have:=Rat.not_le.1 c3
    simp only;grind
  ·refine line (1,0) fun p q hp hq=> ?_
   have:=(ZeL hp).1.2;have:=(ZeL hq).1.1;have:=Rat.not_le.1 c2
   simp only;grind
 ·refine line' (1,0) fun p q hp hq=> ?_
  have:=(ZeL hp).1.1;have:=(ZeL hq).1.2;have:=Rat.not_le.1 c1
  simp only;grind
def freeB (L M:List (List (RV×RV))):Bool:=L.all fun a=>M.all fun b=>sepB a b
theorem ZaC {α:Type} {l:List α} {f:α→Bool} {i:Nat} {x:α} (h:l[i]? =some x):(l.take (i+1)).all f=((l.take i).all f&&f x):=by
 rw [List.take_add_one,h];simp
theorem ZaX {α:Type} {l:List α} {f:α→Bool} {i:Nat} {x:α} (h:l[i]? =some x) (hf:f x=false):l.all f=false:=by
 rw [List.all_eq_false]
 exact⟨x,List.mem_of_getElem? h,by simp [hf]⟩
def rdvs (m:List (RV×RV)):List D:= [D.list (List.map rdv m)]
def rqps (m:List (Rat×Rat)):List D:= [D.list (List.map rqP m)]
def okP (m:List (Rat×Rat)):Prop:=m.length≤8∧∀ p,p∈m→qs p.1≤215000000∧qs p.2≤215000000
def okV (a:List (RV×RV)):Prop:=(a.length≤8∧convE 64 a=0)∧∀ p,p∈a→p.1.z≤215000000∧p.2.z≤215000000
noncomputable def wallsE (l:List (List (RV×RV))):Int:=if 20< l.length then 2 else firstE (fun i=>convE 8 ((l[i]?).getD [])) l.length
theorem ZiZ {l:List (List (RV×RV))} (h:20< l.length):wallsE l=2:=if_pos h
theorem Zgo {l:List (List (RV×RV))} {i:Nat} {a:List (RV×RV)} (h:¬ 20< l.length) (ha:l[i]? =some a) (hb:∀ j,j< i→convE 8 ((l[j]?).getD [])=0) (he:convE 8 a≠0):wallsE l=convE 8 a:=by
 unfold wallsE
 rw [if_neg h,Zes hb (by simp only [ha,Option.getD_some];exact he) (List.getElem?_eq_some_iff.1 ha).1]
 simp only [ha,Option.getD_some]
theorem Zfw {l:List (List (RV×RV))} (h:¬ 20< l.length) (hb:∀ j,j< l.length→convE 8 ((l[j]?).getD [])=0):wallsE l=0:=by
 unfold wallsE;rw [if_neg h,ZdO hb]
theorem ZlB {l : List (List (RV × RV))} (h : wallsE l = 0) : l.length ≤ 20 ∧ ∀ a, a ∈ l → convE 8 a = 0 := by
  unfold wallsE at h
  by_cases g : 20 < l.length
  · rw [if_pos g] at h; exact absurd h (by decide)
  · rw [if_neg g] at h
    refine ⟨by omega, fun a ha => ?_⟩
    obtain ⟨i, hi⟩ := List.mem_iff_getElem?.1 ha
    have hlt := (List.getElem?_eq_some_iff.1 hi).1
    refine Classical.byContradiction fun hc => ?_
    -- the first that is not 0
    have key : ∀ n, firstE (fun i => convE 8 ((l[i]?).getD [])) n = 0 → ∀ j, j < n → convE 8 ((l[j]?).getD []) = 0 := by
      intro n
      induction n with
      | zero => intro _ j hj; omega
      | succ n ih =>
        intro e j hj
        unfold firstE at e
        by_cases z : firstE (fun i => convE 8 ((l[i]?).getD [])) n = 0
        · rw [if_pos z] at e
          by_cases hjn : j = n
          · rw [hjn]; exact e
          · exact ih z j (by omega)
        · rw [if_neg z] at e; exact absurd e z
    have := key l.length h i hlt
    rw [hi, Option.getD_some] at this
    exact hc this
def ptQ (m:List (Rat×Rat)) (i:Nat):poly.Pt:=(m[i]?).getD (0,0)
theorem Zjp {m:List (Rat×Rat)} {i:Nat} {p:Rat×Rat} (h:m[i]? =some p):ptQ m i=p:=by simp [ptQ,h]
def sdU (m n:List (Rat×Rat)) (i k:Nat):Bool:=(n.take k).all fun q=>decide (poly.ori (ptQ m i) (ptQ m ((i+1) % m.length)) q< 0)
def bydB (m n:List (Rat×Rat)):Bool:=(List.range m.length).any fun i=>sdU m n i n.length
def meetR (m n:List (Rat×Rat)):Bool:=!bydB m n&&!bydB n m
theorem Zmg {m n:List (Rat×Rat)} {i:Nat}:sdU m n i n.length=true↔∀ j,j< n.length→poly.ori (ptQ m i) (ptQ m ((i+1) % m.length)) (ptQ n j)< 0:=by
 unfold sdU
 rw [List.take_length,List.all_eq_true]
 constructor
 ·intro h j hj
  obtain⟨q,hq⟩:∃ q,n[j]? =some q:=⟨_,List.getElem?_eq_getElem hj⟩
  rw [Zjp hq]
  exact of_decide_eq_true (h q (List.mem_of_getElem? hq))
 ·intro h q hq
  obtain⟨j,hj⟩:=List.mem_iff_getElem?.1 hq
  have:=h j (List.getElem?_eq_some_iff.1 hj).1
  rw [Zjp hj] at this
  exact decide_eq_true this
theorem Zj3 {m n:List (Rat×Rat)}:bydB m n=true↔poly.Beyond (ptQ m) m.length (ptQ n) n.length:=by
 unfold bydB poly.Beyond
 rw [List.any_eq_true]
 constructor
 ·rintro⟨i,hi,h⟩;exact⟨i,List.mem_range.1 hi,Zmg.1 h⟩
 ·rintro⟨i,hi,h⟩;exact⟨i,List.mem_range.2 hi,Zmg.2 h⟩
theorem Zso {m n:List (Rat×Rat)} {i:Nat} (hi:i< m.length) (h:sdU m n i n.length=true):bydB m n=true:=by
 unfold bydB;rw [List.any_eq_true];exact⟨i,List.mem_range.2 hi,h⟩
theorem ZtH {m n:List (Rat×Rat)} (h:∀ i,i< m.length→sdU m n i n.length=false):bydB m n=false:=by
 unfold bydB
 rw [List.any_eq_false]
 intro i hi
 rw [h i (List.mem_range.1 hi)];exact Bool.false_ne_true
def ptsQ (w:List (RV×RV)):List (Rat×Rat):=w.map fun p=>(p.1.q,p.2.q)
theorem ZfQ (w:List (RV×RV)):(ptsQ w).length=w.length:=by simp [ptsQ]
theorem Zph (w:List (RV×RV)):List.map rqv w=List.map rqP (ptsQ w):=by
 unfold ptsQ;rw [List.map_map];rfl
theorem Zjo (w:List (RV×RV)):ptQ (ptsQ w)=pts w:=by
 funext i
 unfold ptQ ptsQ pts
 rw [List.getElem?_map]
 cases w[i]? with
 |none=>exact Prod.ext z0q.symm z0q.symm
 |some p=>rfl
theorem Zps (m:List (Rat×Rat)):ptsQ (cvl m)=m:=by
 unfold ptsQ cvl
 rw [List.map_map]
 refine(List.map_congr_left fun p _=> ?_).trans (List.map_id _)
 show ((cn p.1).q,(cn p.2).q)=p
 rw [cn_q,cn_q]
theorem Zo7 (a b:List (RV×RV)):sepB a b=!meetR (ptsQ a) (ptsQ b):=by
 have h1:=Zje (a:=a) (b:=b)
 have e1:=Zj3 (m:=ptsQ a) (n:=ptsQ b)
 have e2:=Zj3 (m:=ptsQ b) (n:=ptsQ a)
 rw [Zjo,Zjo,ZfQ,ZfQ] at e1 e2
 rw [← e1,← e2] at h1
 unfold meetR
 cases hs:sepB a b
 ·rw [hs] at h1
  cases hx:bydB (ptsQ a) (ptsQ b)
  ·cases hy:bydB (ptsQ b) (ptsQ a)
   ·rfl
   ·rw [hx,hy] at h1;simp at h1
  ·rw [hx] at h1;simp at h1
 ·rw [hs] at h1
  rcases h1.1 rfl with h|h
  ·rw [h];rfl
  ·rw [h];cases bydB (ptsQ a) (ptsQ b)<;>rfl
def clearB (L:List (List (Rat×Rat))) (W:List (List (RV×RV))):Bool:=L.all fun a=>W.all fun w=>!meetR a (ptsQ w)
theorem Zk4 (L:List (List (Rat×Rat))) (W:List (List (RV×RV))):freeB (L.map cvl) W=clearB L W:=by
 unfold freeB clearB
 rw [List.all_map]
 congr 1
 funext a
 show (W.all fun b=>sepB (cvl a) b)=_
 congr 1
 funext b
 rw [Zo7,Zps]
end Go.Proofs.YtpfemjpgbpnpkaaGreatDoor.eng
namespace Go.Proofs.YtpfemjpgbpnpkaaGreatDoor.eng
open Go.RowKit num mem seg q held ratA ratB ratC ratD ratE vars ratF trq
theorem Zm9 (a b:Rat):minQ a b≤a∧minQ a b≤b:=by unfold minQ;split<;>grind
theorem Znc (a b:Rat):a≤maxQ a b∧b≤maxQ a b:=by unfold maxQ;split<;>grind
def B4.holds (b:B4) (p:Rat×Rat):Prop:=(b.xl≤p.1∧p.1≤b.xh)∧b.yl≤p.2∧p.2≤b.yh
theorem Zou {f:LF} {g:RF} (h:f.has g) (v:RV×RV):(atL f v).holds (putQ g v.1.q v.2.q):=by
 obtain⟨⟨a1,a2⟩,⟨a3,a4⟩,⟨a5,a6⟩,a7,a8⟩:=h
 have k1:=Za0 (Rat.le_refl:v.1.q≤v.1.q) Rat.le_refl a5 a6
 have k2:=Za0 (Rat.le_refl:v.2.q≤v.2.q) Rat.le_refl a7 a8
 have k3:=Za0 (Rat.le_refl:v.1.q≤v.1.q) Rat.le_refl a7 a8
 have k4:=Za0 (Rat.le_refl:v.2.q≤v.2.q) Rat.le_refl a5 a6
 unfold B4.holds atL putQ
 simp only
 refine⟨⟨?_,?_⟩,?_,?_⟩<;>grind
theorem Zeo {a b:B4} {p:Rat×Rat} (h:a.holds p∨b.holds p):(joinB a b).holds p:=by
 have m1:=Zm9 a.xl b.xl
 have m2:=Znc a.xh b.xh
 have m3:=Zm9 a.yl b.yl
 have m4:=Znc a.yh b.yh
 unfold B4.holds joinB at*
 simp only
 refine⟨⟨?_,?_⟩,?_,?_⟩<;>grind
theorem Zc3 {f:LF} {g:RF} (h:f.has g) (l:List (RV×RV)):∀ k i,i≤k→(bxF f l k).holds (putQ g (vAt l i).1.q (vAt l i).2.q)
 |0,i,hi=>by
  obtain rfl:i=0:=by omega
  exact Zou h _
 |k+1,i,hi=>by
  by_cases e:i=k+1
  ·subst e;exact Zeo (.inr (Zou h _))
  ·exact Zeo (.inl (Zc3 h l k i (by omega)))
theorem Zrx {l:List (RV×RV)} {i:Nat} (hi:i< l.length):pts l i=((vAt l i).1.q,(vAt l i).2.q):=by
 rw [Z2 (List.getElem?_eq_getElem hi),Zgp (List.getElem?_eq_getElem hi)]
theorem ZtI {f:LF} {g:RF} (h:f.has g) (hu:g.u) {l:List (RV×RV)} (hc:convE 8 l=0):(bxF f l (l.length - 1)).xl< (bxF f l (l.length - 1)).xh∧(bxF f l (l.length - 1)).yl< (bxF f l (l.length - 1)).yh:=by
 obtain⟨_,h3,he⟩:=ZaM.1 hc
 have e:=he 0 2 (by omega) (by omega) (by omega)
 rw [Nat.zero_add,Nat.zero_add,Nat.mod_eq_of_lt (by omega:1< l.length),Nat.mod_eq_of_lt (by omega:2< l.length)] at e
 rw [← Zpr hu,Zrx (by omega),Zrx (by omega),Zrx (by omega)] at e
 obtain⟨⟨a1,a2⟩,a3,a4⟩:=Zc3 h l (l.length - 1) 0 (by omega)
 obtain⟨⟨b1,b2⟩,b3,b4⟩:=Zc3 h l (l.length - 1) 1 (by omega)
 obtain⟨⟨c1,c2⟩,c3,c4⟩:=Zc3 h l (l.length - 1) 2 (by omega)
 simp only at e
 generalize bxF f l (l.length - 1)=b at*
 generalize putQ g (vAt l 0).1.q (vAt l 0).2.q=p at*
 generalize putQ g (vAt l 1).1.q (vAt l 1).2.q=q at*
 generalize putQ g (vAt l 2).1.q (vAt l 2).2.q=r at*
 obtain⟨p1,p2⟩:=p
 obtain⟨q1,q2⟩:=q
 obtain⟨r1,r2⟩:=r
 simp only [poly.ori] at*
 refine⟨Rat.not_le.1 fun hle=> ?_,Rat.not_le.1 fun hle=> ?_⟩
 ·obtain rfl:q1=p1:=by grind
  obtain rfl:r1=q1:=by grind
  grind
 ·obtain rfl:q2=p2:=by grind
  obtain rfl:r2=q2:=by grind
  grind
def cnr (b:B4):List (Rat×Rat):= [(b.xl,b.yl),(b.xh,b.yl),(b.xh,b.yh),(b.xl,b.yh)]
theorem Zqe {b:B4} (h:b.xl< b.xh∧b.yl< b.yh):convE 64 (cvl (cnr b))=0:=by
 refine ZaM.2 ⟨by show ¬ (64:Int)< ((4:Nat):Int);omega,by show ¬ (4:Nat)< 3;omega,?_⟩
 have p0:pts (cvl (cnr b)) 0=(b.xl,b.yl):=by rw [Z2 (p:=(cn b.xl,cn b.yl)) rfl,cn_q,cn_q]
 have p1:pts (cvl (cnr b)) 1=(b.xh,b.yl):=by rw [Z2 (p:=(cn b.xh,cn b.yl)) rfl,cn_q,cn_q]
 have p2:pts (cvl (cnr b)) 2=(b.xh,b.yh):=by rw [Z2 (p:=(cn b.xh,cn b.yh)) rfl,cn_q,cn_q]
 have p3:pts (cvl (cnr b)) 3=(b.xl,b.yh):=by rw [Z2 (p:=(cn b.xl,cn b.yh)) rfl,cn_q,cn_q]
 have hp:=Rat.mul_pos (by grind:0< b.xh - b.xl) (by grind:0< b.yh - b.yl)
 intro i k hi h2 hk
 have hi:i< 4:=hi
 have hk:k< 4:=hk
 show 0< poly.ori (pts (cvl (cnr b)) i) (pts (cvl (cnr b)) ((i+1) % 4)) (pts (cvl (cnr b)) ((i+k) % 4))
 rcases (show (i=0∨i=1∨i=2∨i=3) from by omega) with rfl|rfl|rfl|rfl<;>rcases (show (k=2∨k=3) from by omega) with rfl|rfl<;>
  simp only [Nat.reduceAdd,Nat.reduceMod,p0,p1,p2,p3,poly.ori]<;>grind
theorem Zrl {A:ArmV} (hA:armE A=0) (Q:List (RV×RV)):∀ b,b∈shbL A Q A.links.length→b.xl< b.xh∧b.yl< b.yh:=fun b hb=>by
 obtain⟨i,hi,rfl⟩:=List.mem_map.1 (show b∈List.map _ _ from hb)
 have hi:i< A.links.length:=by simpa using hi
 have hl:=List.getElem?_eq_getElem hi
 have hs:shOf A i=A.links[i].shape:=ZhW hl
 exact ZtI (ZcM A Q i) (Zfz (ZjS A Q i) _) (by rw [hs];exact(ZaO hA (List.mem_of_getElem? hl)).2.2.2.2.2.2.2.2.2.1)
theorem Zsj {b:B4} (h:b.xl< b.xh∧b.yl< b.yh) (hz:b.z 400):okV (cvl (cnr b)):=by
 obtain⟨⟨z1,z2⟩,z3,z4⟩:=hz
 refine⟨⟨by show 4≤8;omega,Zqe h⟩,fun p hp=> ?_⟩
 have hp:p=(cn b.xl,cn b.yl)∨p=(cn b.xh,cn b.yl)∨p=(cn b.xh,cn b.yh)∨p=(cn b.xl,cn b.yh):=by simpa [cvl,cnr] using hp
 rcases hp with rfl|rfl|rfl|rfl<;>(simp only [cn_z];omega)
theorem Zk5 (L:List B4) (W:List (List (RV×RV))):freeB (L.map fun b=>cvl (cnr b)) W=L.all fun b=>clearB [cnr b] W:=by
 rw [show (L.map fun b=>cvl (cnr b))=(L.map cnr).map cvl from by rw [List.map_map];rfl,Zk4]
 unfold clearB
 rw [List.all_map]
 congr 1
 funext b
 simp
def provedB (A:ArmV) (R:List (List (RV×RV))) (W:List (List (RV×RV))):Bool:=R.all fun row=>(shbL A row A.links.length).all fun b=>clearB [cnr b] W
end Go.Proofs.YtpfemjpgbpnpkaaGreatDoor.eng
namespace Go.Proofs.YtpfemjpgbpnpkaaGreatDoor.eng
open Go.RowKit num mem seg q held ratA ratB ratC ratD ratE vars ratF natC natD natI sub32
section
variable {K : AV → Prop} {x y : RV}
theorem Zna (p o:Int) (a b:Rat):midQ p o a b=if o=0 then a else a+(b - a)*(p:Rat) / (o:Rat):=by
 unfold midQ
 split
 ·rename_i h
  subst h
  rw [show ((0:Int):Rat)=0 from rfl,Rat.div_def,Rat.inv_zero,Rat.mul_zero,Rat.zero_mul,Rat.add_zero]
 ·rw [Rat.div_def,Rat.div_def,Rat.mul_comm (p:Rat),Rat.mul_assoc,Rat.mul_comm ((o:Rat)⁻¹),Rat.mul_comm (p:Rat)]
set_option maxHeartbeats 1000000 in
theorem Zqt (l m:List RV) (p o:Int) (hp1:-9223372036854775808≤p) (hp2:p≤9223372036854775807) (ho1:-9223372036854775808≤o) (ho2:o≤9223372036854775807) (hl:∀ x,x∈l→x.z≤16777216) (hm:∀ x,x∈m→x.z≤16777216) (hn:l.length≤1073741824) (hn':m.length≤1073741824):
  Spec Tryz.prog Tab 276 [.val (.one (.d (.list (vr l)))),.val (.one (.d (.list (vr m)))),int p,int o] (.val (.one (.d (.list (QL (midL l m p o)))))):=by
 have hll:=Zdp l
 have hml:=Zdp m
 have hlen:=Zam l m p o
 refine Za Tryz.func276 rfl rfl Tryz.ntmps276 rfl (by kernel_rfl) rfl rfl ?_
 have hmn:(if (((vr m).length:Nat):Int)< (((vr l).length:Nat):Int) then (((vr m).length:Nat):Int) else (((vr l).length:Nat):Int))=(((midL l m p o).length:Nat):Int):=by
  rw [hll,hml,hlen];split<;>omega
 refine⟨Nat,fun i=> [(0,.val (.one (.d (.list (vr l))))),(1,.val (.one (.d (.list (vr m))))),(2,int p),(3,int o),(9,.val (.one (.row 47 0))),(17,int (((midL l m p o).length:Nat):Int)),(18,int (i:Int))],
  fun i=> [(47,.row 51 3 0 (QL ((midL l m p o).take i)) true)],fun i=>i≤(midL l m p o).length,fun i=>(midL l m p o).length - i,0,?_,Nat.zero_le _,fun i hi=> ?_⟩
 ·constructor<;>(repeat' (first|exact rfl|exact True.intro|exact⟨_,_,rfl⟩|exact(by decide:0< 3)|apply And.intro))
  all_goals exact congrArg (fun n:Int=>D.v (.int .i64 n)) hmn.symm
 refine⟨fun e=> ?_,fun e=> ?_⟩
 ·have hlt:i< (midL l m p o).length:=by have:=of_decide_eq_true e;omega
  obtain⟨x,hx⟩:∃ a,l[i]? =some a:=⟨_,List.getElem?_eq_getElem (by omega)⟩
  obtain⟨y,hy⟩:∃ a,m[i]? =some a:=⟨_,List.getElem?_eq_getElem (by omega)⟩
  have hxz:=hl x (List.mem_of_getElem? hx)
  have hyz:=hm y (List.mem_of_getElem? hy)
  have hlt2:(QL ((midL l m p o).take i)).length≤1099511627776:=by simp [QL];omega
  have hat:=Zif (p:=p) (o:=o) hx hy
  have hq:∀ q,q=midQ p o x.q y.q→QL ((midL l m p o).take (i+1))=QL ((midL l m p o).take i)++ [q3d q]:=by
   intro q hq
   rw [List.take_add_one,hat,hq]
   simp [QL]
  refine k_at (rd x) (Int.natCast_nonneg _) (by rw [Int.toNat_natCast];exact ZlC hx) rfl ?_
  refine Zx (x:=x) (by omega) fun q1 h1 z1=> ?_
  refine k_at (rd y) (Int.natCast_nonneg _) (by rw [Int.toNat_natCast];exact ZlC hy) rfl ?_
  refine Zx (x:=y) (by omega) fun q2 h2 z2=> ?_
  refine⟨by kernel_rfl,?_⟩
  refine⟨fun e2=> ?_,fun e2=> ?_⟩
  ·have ho:o≠0:=by
    have:(o !=0)=true:=e2
    simpa using this
   refine Zdv (p:=q2) (q:=q1) (by omega) (by omega) fun q3 h3 z3=> ?_
   refine k_N3 p hp1 hp2 fun q4 h4 z4=> ?_
   refine ZbB (p:=q3) (q:=q4) (by omega) (by omega) fun q5 h5 z5=> ?_
   refine k_N3 o ho1 ho2 fun q6 h6 z6=> ?_
   refine Zhg (p:=q5) (q:=q6) (by omega) (by omega) (by rw [h6];exact fun h=>ho (Rat.intCast_eq_zero_iff.1 h)) fun q7 h7 z7=> ?_
   refine Zhi (p:=q1) (q:=q7) (by omega) (by omega) fun q8 h8 z8=> ?_
   have hq8:=hq q8 (by rw [Zna,if_neg ho,h8,h7,h6,h5,h4,h3,h2,h1])
   refine⟨by kernel_rfl,?_⟩
   refine⟨⟨ZoH [q8],?_,?_⟩,?_⟩
   ·show ((QL ((midL l m p o).take i)).length+1)*56≤_;omega
   ·show (QL ((midL l m p o).take i)).length+1≤_;omega
   refine⟨i+1,hlt,by simp only;omega,?_⟩
   constructor<;>(repeat' (first|exact rfl|exact True.intro|apply And.intro))
   all_goals first
    |exact congrArg (fun n:Int=>D.v (.int .i64 n)) (show ((i+1:Nat):Int)=IntKind.i64.wrap ((i:Int)+1) by rw [wrap64 _ (by omega) (by omega)];omega)
    |(rw [hq8];exact rfl)
  ·have ho:o=0:=by
    have:(o !=0)=false:=e2
    simpa using this
   have hq8:=hq q1 (by rw [Zna,if_pos ho,h1])
   refine⟨⟨ZoH [q1],?_,?_⟩,?_⟩
   ·show ((QL ((midL l m p o).take i)).length+1)*56≤_;omega
   ·show (QL ((midL l m p o).take i)).length+1≤_;omega
   refine⟨i+1,hlt,by simp only;omega,?_⟩
   constructor<;>(repeat' (first|exact rfl|exact True.intro|apply And.intro))
   all_goals first
    |exact congrArg (fun n:Int=>D.v (.int .i64 n)) (show ((i+1:Nat):Int)=IntKind.i64.wrap ((i:Int)+1) by rw [wrap64 _ (by omega) (by omega)];omega)
    |(rw [hq8];exact rfl)
 ·have hge:i=(midL l m p o).length:=by have:=of_decide_eq_false e;omega
  subst hge
  refine Eq.trans (b:= .val (.one (.d (.list (QL ((midL l m p o).take (midL l m p o).length)))))) ?_ rfl
  rw [List.take_length]
def s3 (p q:Rat):AV:= .val (.agg [.d (.v (.bool (decide (p.num< 0)))),.d (.list (W (w32 p.num.natAbs))),.d (.list (W (w32 p.den))),.d (.v (.bool (decide (q.num< 0)))),.d (.list (W (w32 q.num.natAbs))),.d (.list (W (w32 q.den)))])
theorem Zqp (p q:Rat) (hp:qs p≤8589934592) (hq:qs q≤8589934592):Spec Tryz.prog Tab 279 [s3 p q] (pair (cn p) (cn q)):=by
 refine Za Tryz.func279 rfl rfl Tryz.ntmps279 rfl (by kernel_rfl) rfl rfl ?_
 refine Zr3 (q:=p) hp ?_
 refine Zr3 (q:=q) hq ?_
 refine⟨by kernel_rfl,?_⟩
 exact rfl
def stepL (l m:List RV) (o:Int) (k:Nat):List (Rat×Rat):=List.zipWith (fun a b=>(minQ a b,maxQ a b)) (midL l m (k:Int) o) (midL l m ((k:Int)+1) o)
def partsL (l m:List RV) (o:Int):List (List (Rat×Rat)):=(List.range o.toNat).map (stepL l m o)
def SL (r:List (Rat×Rat)):List (List D):=r.map fun p=>rd (cn p.1)++rd (cn p.2)
def PL (rows:List (List (Rat×Rat))):List (List D):=rows.map fun r=> [D.list (SL r)]
theorem Zq6 (r:List (Rat×Rat)):(SL r).length=r.length:=by simp [SL]
theorem Zq7 (r:List (List (Rat×Rat))):(PL r).length=r.length:=by simp [PL]
theorem ZoC (l:List (Rat×Rat)):∀ row,row∈SL l→row.length=6:=by
 intro row hr
 obtain⟨q,_,rfl⟩:=List.mem_map.1 hr
 rfl
theorem ZcC (l m:List RV) (o:Int) (k:Nat):(stepL l m o k).length=min l.length m.length:=by simp [stepL,Zam]
theorem ZfB {l m:List RV} {o:Int} {k i:Nat} {a b:Rat} (h1:(midL l m (k:Int) o)[i]? =some a) (h2:(midL l m ((k:Int)+1) o)[i]? =some b):(stepL l m o k)[i]? =some (minQ a b,maxQ a b):=by
 simp [stepL,List.getElem?_zipWith,h1,h2]
theorem Zc8 (l m:List RV) (o:Int):(partsL l m o).length=o.toNat:=by simp [partsL]
theorem ZgT {l m:List RV} {o:Int} {k:Nat} (h:k< o.toNat):(partsL l m o)[k]? =some (stepL l m o k):=by simp [partsL,h]
theorem ZoB {r:List (Rat×Rat)} {i:Nat} {p:Rat×Rat} (h:r[i]? =some p):SL (r.take (i+1))=SL (r.take i)++ [rd (cn p.1)++rd (cn p.2)]:=by
 rw [List.take_add_one,h];simp [SL]
theorem ZoJ {rows:List (List (Rat×Rat))} {i:Nat} {p:List (Rat×Rat)} (h:rows[i]? =some p):PL (rows.take (i+1))=PL (rows.take i)++ [[D.list (SL p)]]:=by
 rw [List.take_add_one,h];simp [PL]
def splitBad (l m:List RV) (o:Int):Prop:=l.length≠m.length∨3< l.length∨o< 1∨50< o
instance (l m:List RV) (o:Int):Decidable (splitBad l m o):=by unfold splitBad;infer_instance
theorem Ztv (l m:List RV) (p o:Int) {u v:List (List D)} (hu:u=vr l) (hv:v=vr m) {p':Int} (hp:p'=p) (hp1:-9223372036854775808≤p) (hp2:p≤9223372036854775807) (ho1:-9223372036854775808≤o) (ho2:o≤9223372036854775807) (hl:∀ x,x∈l→x.z≤16777216) (hm:∀ x,x∈m→x.z≤16777216) (hn:l.length≤1073741824) (hn':m.length≤1073741824)
  (k:K (.val (.one (.d (.list (RL (midL l m p o))))))):Ask 268 [.val (.one (.d (.list u))),.val (.one (.d (.list v))),int p',int o] K:=by
 subst hu hv hp
 exact use (Zqw l m p' o hp1 hp2 ho1 ho2 hl hm hn hn') rfl k
theorem Ztu (l m:List RV) (p o:Int) {u v:List (List D)} (hu:u=vr l) (hv:v=vr m) {p':Int} (hp:p'=p) (hp1:-9223372036854775808≤p) (hp2:p≤9223372036854775807) (ho1:-9223372036854775808≤o) (ho2:o≤9223372036854775807) (hl:∀ x,x∈l→x.z≤16777216) (hm:∀ x,x∈m→x.z≤16777216) (hn:l.length≤1073741824) (hn':m.length≤1073741824)
  (k:K (.val (.one (.d (.list (QL (midL l m p o))))))):Ask 276 [.val (.one (.d (.list u))),.val (.one (.d (.list v))),int p',int o] K:=by
 subst hu hv hp
 exact use (Zqt l m p' o hp1 hp2 ho1 ho2 hl hm hn hn') rfl k
set_option maxHeartbeats 4000000 in
theorem Zlh (l m:List RV) (o:Int) (ho1:-9223372036854775808≤o) (ho2:o≤9223372036854775807) (hl:∀ x,x∈l→x.z≤16777216) (hm:∀ x,x∈m→x.z≤16777216) (hn:l.length≤1073741824) (hn':m.length≤1073741824):
  Spec Tryz.prog Tab 232 [.val (.one (.d (.list (vr l)))),.val (.one (.d (.list (vr m)))),int o] (if splitBad l m o then two (.val (.one (.d (.list [])))) (int 1) else two (.val (.one (.d (.list (PL (partsL l m o)))))) (int 0)):=by
 have hll:=Zdp l
 have hml:=Zdp m
 have bad:splitBad l m o→(if splitBad l m o then two (.val (.one (.d (.list [])))) (int 1) else two (.val (.one (.d (.list (PL (partsL l m o)))))) (int 0))=two (.val (.one (.d (.list [])))) (int 1):=fun h=>if_pos h
 refine Za Tryz.func232 rfl rfl Tryz.ntmps232 rfl (by kernel_rfl) rfl rfl ?_
 refine fork (fun e1=> ?_) (fun e1=> ?_)
 ·refine⟨fun _=> ?_,fun e=>by simp at e⟩
  refine bad (.inl fun h=> ?_)
  have:((((vr l).length:Nat):Int) !=(((vr m).length:Nat):Int))=true:=e1
  rw [hll,hml,h] at this;simp at this
 have c1:l.length=m.length:=by
  have:((((vr l).length:Nat):Int) !=(((vr m).length:Nat):Int))=false:=e1
  rw [hll,hml] at this;simp at this;omega
 refine fork (fun e2=> ?_) (fun e2=> ?_)
 ·refine⟨fun _=> ?_,fun e=>by simp at e⟩
  exact bad (.inr (.inl (by have:=of_decide_eq_true e2;omega)))
 have c2:l.length≤3:=by have:=of_decide_eq_false e2;omega
 refine fork (fun e3=> ?_) (fun e3=> ?_)
 ·refine⟨fun _=> ?_,fun e=>by simp at e⟩
  exact bad (.inr (.inr (.inl (of_decide_eq_true e3))))
 have c3:1≤o:=by have:=of_decide_eq_false e3;omega
 refine⟨fun e4=> ?_,fun e4=> ?_⟩
 ·exact bad (.inr (.inr (.inr (of_decide_eq_true e4))))
 have c4:o≤50:=by have:=of_decide_eq_false e4;omega
 have good:¬ splitBad l m o:=by
  rintro(h|h|h|h)
  ·exact h c1
  ·omega
  ·omega
  ·omega
 refine Ztv l m 0 o rfl rfl rfl (by omega) (by omega) ho1 ho2 hl hm hn hn' ?_
 have hpl:=Zc8 l m o
 refine⟨Nat,fun k=> [(0,.val (.one (.d (.list (vr l))))),(1,.val (.one (.d (.list (vr m))))),(2,int o),(8,.val (.one (.row 77 0))),(9,.val (.one (.d (.list (RL (midL l m (k:Int) o)))))),(36,int o),(37,int (k:Int))],
  fun k=> [(77,.row 263 1 0 (PL ((partsL l m o).take k)) true)],fun k=>k≤o.toNat,fun k=>o.toNat - k,0,?_,Nat.zero_le _,fun k hk=> ?_⟩
 ·constructor<;>(repeat' (first|exact rfl|exact True.intro|exact⟨_,_,rfl⟩|exact(by decide:0< 1)|apply And.intro))
 refine⟨fun e=> ?_,fun e=> ?_⟩
 ·have hlt:k< o.toNat:=by have:=of_decide_eq_true e;omega
  have hw1:IntKind.i64.wrap ((k:Int)+1)=(k:Int)+1:=wrap64 _ (by omega) (by omega)
  refine Ztv l m ((k:Int)+1) o rfl rfl hw1 (by omega) (by omega) ho1 ho2 hl hm hn hn' ?_
  have la:=Zam l m (k:Int) o
  have lb:=Zam l m ((k:Int)+1) o
  have ls:=ZcC l m o k
  have za:=Zdb (l:=l) (m:=m) (p:=(k:Int)) (o:=o) (Z:=16777216) (by omega) (by omega) ho1 ho2 hl hm
  have zb:=Zdb (l:=l) (m:=m) (p:=(k:Int)+1) (o:=o) (Z:=16777216) (by omega) (by omega) ho1 ho2 hl hm
  refine⟨Nat,fun i=> [(0,.val (.one (.d (.list (vr l))))),(1,.val (.one (.d (.list (vr m))))),(2,int o),(8,.val (.one (.row 77 0))),(9,.val (.one (.d (.list (RL (midL l m (k:Int) o)))))),(11,.val (.one (.d (.list (RL (midL l m ((k:Int)+1) o)))))),(12,.val (.one (.row 72 0))),(36,int o),(37,int (k:Int)),(47,int ((stepL l m o k).length:Int)),(48,int (i:Int))],
   fun i=> [(77,.row 263 1 0 (PL ((partsL l m o).take k)) true),(72,.row 61 6 0 (SL ((stepL l m o k).take i)) true)],fun i=>i≤(stepL l m o k).length,fun i=>(stepL l m o k).length - i,0,?_,Nat.zero_le _,fun i hi=> ?_⟩
  ·constructor<;>(repeat' (first|exact rfl|exact True.intro|exact⟨_,_,rfl⟩|exact(by decide:0< 6)|apply And.intro))
   all_goals exact congrArg (fun n:Nat=>D.v (.int .i64 (n:Int))) (show (stepL l m o k).length=(RL (midL l m (k:Int) o)).length by rw [ZoF];omega)
  refine⟨fun e5=> ?_,fun e5=> ?_⟩
  ·have hil:i< (stepL l m o k).length:=by have:=of_decide_eq_true e5;omega
   obtain⟨a,ha⟩:∃ a,(midL l m (k:Int) o)[i]? =some a:=⟨_,List.getElem?_eq_getElem (by omega)⟩
   obtain⟨b,hb⟩:∃ b,(midL l m ((k:Int)+1) o)[i]? =some b:=⟨_,List.getElem?_eq_getElem (by omega)⟩
   have hza:=za a (List.mem_of_getElem? ha)
   have hzb:=zb b (List.mem_of_getElem? hb)
   have hs:=ZfB ha hb
   refine k_at (rd (cn a)) (Int.natCast_nonneg _) (by rw [Int.toNat_natCast];exact Zls ha) rfl ?_
   refine k_at (rd (cn b)) (Int.natCast_nonneg _) (by rw [Int.toNat_natCast];exact Zls hb) rfl ?_
   refine ZkX (x:=cn a) (y:=cn b) (by rw [cn_z];omega) (by rw [cn_z];omega) fun q1 h1 z1=> ?_
   refine k_at (rd (cn a)) (Int.natCast_nonneg _) (by rw [Int.toNat_natCast];exact Zls ha) rfl ?_
   refine k_at (rd (cn b)) (Int.natCast_nonneg _) (by rw [Int.toNat_natCast];exact Zls hb) rfl ?_
   refine ZkY (x:=cn a) (y:=cn b) (by rw [cn_z];omega) (by rw [cn_z];omega) fun q2 h2 z2=> ?_
   simp only [cn_q] at h1 h2
   have hq:SL ((stepL l m o k).take (i+1))=SL ((stepL l m o k).take i)++ [rd (cn q1)++rd (cn q2)]:=by
    rw [ZoB hs,h1,h2]
   have hlt2:(SL ((stepL l m o k).take i)).length≤4:=by rw [Zq6,List.length_take];omega
   refine⟨⟨ZoC [(q1,q2)],?_,?_⟩,?_⟩
   ·show ((SL ((stepL l m o k).take i)).length+1)*80≤_;omega
   ·show (SL ((stepL l m o k).take i)).length+1≤_;omega
   refine⟨by kernel_rfl,?_⟩
   refine⟨i+1,hil,by simp only;omega,?_⟩
   constructor<;>(repeat' (first|exact rfl|exact True.intro|apply And.intro))
   all_goals first
    |exact congrArg (fun n:Int=>D.v (.int .i64 n)) (show ((i+1:Nat):Int)=IntKind.i64.wrap ((i:Int)+1) by rw [wrap64 _ (by omega) (by omega)];omega)
    |(rw [hq];exact rfl)
  ·have hil:i=(stepL l m o k).length:=by have:=of_decide_eq_false e5;omega
   subst hil
   have hq:PL ((partsL l m o).take (k+1))=PL ((partsL l m o).take k)++ [[D.list (SL ((stepL l m o k).take (stepL l m o k).length))]]:=by
    rw [ZoJ (ZgT hlt),List.take_length]
   have hlt2:(PL ((partsL l m o).take k)).length≤50:=by rw [Zq7,List.length_take];omega
   refine⟨⟨fun row hrow=>by rw [List.mem_singleton.1 hrow];rfl,?_,?_⟩,?_⟩
   ·show ((PL ((partsL l m o).take k)).length+1)*24≤_;omega
   ·show (PL ((partsL l m o).take k)).length+1≤_;omega
   refine⟨k+1,hlt,by simp only;omega,?_⟩
   constructor<;>(repeat' (first|exact rfl|exact True.intro|apply And.intro))
   all_goals first
    |exact congrArg (fun n:Int=>D.v (.int .i64 n)) (show ((k+1:Nat):Int)=IntKind.i64.wrap ((k:Int)+1) by rw [wrap64 _ (by omega) (by omega)];omega)
    |(rw [hq];exact rfl)
    |rw [hq]
 ·have hge:k=o.toNat:=by have:=of_decide_eq_false e;omega
  subst hge
  refine Eq.trans (if_neg good) ?_
  refine Eq.trans (b:=two (.val (.one (.d (.list (PL ((partsL l m o).take o.toNat)))))) (int 0)) ?_ rfl
  rw [List.take_of_length_le (by omega)]
set_option maxHeartbeats 4000000 in
theorem Zlt (l m:List RV) (o:Int) (ho1:1≤o) (ho2:o≤50) (hl:∀ x,x∈l→x.z≤16777216) (hm:∀ x,x∈m→x.z≤16777216) (hn:l.length≤1073741824) (hn':m.length≤1073741824):
  Spec Tryz.prog Tab 236 [.val (.one (.d (.list (vr l)))),.val (.one (.d (.list (vr m)))),int o] (.val (.one (.d (.list (PL (partsL l m o)))))):=by
 have hll:=Zdp l
 have hml:=Zdp m
 refine Za Tryz.func236 rfl rfl Tryz.ntmps236 rfl (by kernel_rfl) rfl rfl ?_
 have hpl:=Zc8 l m o
 refine⟨Nat,fun k=> [(0,.val (.one (.d (.list (vr l))))),(1,.val (.one (.d (.list (vr m))))),(2,int o),(7,.val (.one (.row 60 0))),(13,int o),(14,int (k:Int))],
  fun k=> [(60,.row 263 1 0 (PL ((partsL l m o).take k)) true)],fun k=>k≤o.toNat,fun k=>o.toNat - k,0,?_,Nat.zero_le _,fun k hk=> ?_⟩
 ·constructor<;>(repeat' (first|exact rfl|exact True.intro|exact⟨_,_,rfl⟩|exact(by decide:0< 1)|apply And.intro))
 refine⟨fun e=> ?_,fun e=> ?_⟩
 ·have hlt:k< o.toNat:=by have:=of_decide_eq_true e;omega
  have hw1:IntKind.i64.wrap ((k:Int)+1)=(k:Int)+1:=wrap64 _ (by omega) (by omega)
  refine Ztu l m (k:Int) o rfl rfl rfl (by omega) (by omega) (by omega) (by omega) hl hm hn hn' ?_
  refine Ztu l m ((k:Int)+1) o rfl rfl hw1 (by omega) (by omega) (by omega) (by omega) hl hm hn hn' ?_
  have la:=Zam l m (k:Int) o
  have lb:=Zam l m ((k:Int)+1) o
  have ls:=ZcC l m o k
  have za:=Zdb (l:=l) (m:=m) (p:=(k:Int)) (o:=o) (Z:=16777216) (by omega) (by omega) (by omega) (by omega) hl hm
  have zb:=Zdb (l:=l) (m:=m) (p:=(k:Int)+1) (o:=o) (Z:=16777216) (by omega) (by omega) (by omega) (by omega) hl hm
  refine⟨Nat,fun i=> [(0,.val (.one (.d (.list (vr l))))),(1,.val (.one (.d (.list (vr m))))),(2,int o),(7,.val (.one (.row 60 0))),(9,.val (.one (.d (.list (QL (midL l m (k:Int) o)))))),(10,.val (.one (.d (.list (QL (midL l m ((k:Int)+1) o)))))),(11,.val (.one (.row 55 0))),(13,int o),(14,int (k:Int)),(29,int ((stepL l m o k).length:Int)),(30,int (i:Int))],
   fun i=> [(60,.row 263 1 0 (PL ((partsL l m o).take k)) true),(55,.row 61 6 0 (SL ((stepL l m o k).take i)) true)],fun i=>i≤(stepL l m o k).length,fun i=>(stepL l m o k).length - i,0,?_,Nat.zero_le _,fun i hi=> ?_⟩
  ·constructor<;>(repeat' (first|exact rfl|exact True.intro|exact⟨_,_,rfl⟩|exact(by decide:0< 6)|apply And.intro))
   all_goals exact congrArg (fun n:Nat=>D.v (.int .i64 (n:Int))) (show (stepL l m o k).length=(QL (midL l m (k:Int) o)).length by rw [ZtO];omega)
  refine⟨fun e5=> ?_,fun e5=> ?_⟩
  ·have hil:i< (stepL l m o k).length:=by have:=of_decide_eq_true e5;omega
   obtain⟨a,ha⟩:∃ a,(midL l m (k:Int) o)[i]? =some a:=⟨_,List.getElem?_eq_getElem (by omega)⟩
   obtain⟨b,hb⟩:∃ b,(midL l m ((k:Int)+1) o)[i]? =some b:=⟨_,List.getElem?_eq_getElem (by omega)⟩
   have hza:=za a (List.mem_of_getElem? ha)
   have hzb:=zb b (List.mem_of_getElem? hb)
   have hs:=ZfB ha hb
   refine k_at (q3d a) (Int.natCast_nonneg _) (by rw [Int.toNat_natCast];exact Zqr ha) rfl ?_
   refine k_at (q3d b) (Int.natCast_nonneg _) (by rw [Int.toNat_natCast];exact Zqr hb) rfl ?_
   refine Z0 (p:=a) (q:=b) (by omega) (by omega) fun q1 h1 z1=> ?_
   refine k_at (q3d a) (Int.natCast_nonneg _) (by rw [Int.toNat_natCast];exact Zqr ha) rfl ?_
   refine k_at (q3d b) (Int.natCast_nonneg _) (by rw [Int.toNat_natCast];exact Zqr hb) rfl ?_
   refine Zax (p:=a) (q:=b) (by omega) (by omega) fun q2 h2 z2=> ?_
   refine use (Zqp q1 q2 (by omega) (by omega)) rfl ?_
   have hq:SL ((stepL l m o k).take (i+1))=SL ((stepL l m o k).take i)++ [rd (cn q1)++rd (cn q2)]:=by
    rw [ZoB hs,h1,h2]
   have hlt2:(SL ((stepL l m o k).take i)).length≤1073741824:=by rw [Zq6,List.length_take];omega
   refine⟨⟨ZoC [(q1,q2)],?_,?_⟩,?_⟩
   ·show ((SL ((stepL l m o k).take i)).length+1)*80≤_;omega
   ·show (SL ((stepL l m o k).take i)).length+1≤_;omega
   refine⟨by kernel_rfl,?_⟩
   refine⟨i+1,hil,by simp only;omega,?_⟩
   constructor<;>(repeat' (first|exact rfl|exact True.intro|apply And.intro))
   all_goals first
    |exact congrArg (fun n:Int=>D.v (.int .i64 n)) (show ((i+1:Nat):Int)=IntKind.i64.wrap ((i:Int)+1) by rw [wrap64 _ (by omega) (by omega)];omega)
    |(rw [hq];exact rfl)
  ·have hil:i=(stepL l m o k).length:=by have:=of_decide_eq_false e5;omega
   subst hil
   have hq:PL ((partsL l m o).take (k+1))=PL ((partsL l m o).take k)++ [[D.list (SL ((stepL l m o k).take (stepL l m o k).length))]]:=by
    rw [ZoJ (ZgT hlt),List.take_length]
   have hlt2:(PL ((partsL l m o).take k)).length≤50:=by rw [Zq7,List.length_take];omega
   refine⟨⟨fun row hrow=>by rw [List.mem_singleton.1 hrow];rfl,?_,?_⟩,?_⟩
   ·show ((PL ((partsL l m o).take k)).length+1)*24≤_;omega
   ·show (PL ((partsL l m o).take k)).length+1≤_;omega
   refine⟨k+1,hlt,by simp only;omega,?_⟩
   constructor<;>(repeat' (first|exact rfl|exact True.intro|apply And.intro))
   all_goals first
    |exact congrArg (fun n:Int=>D.v (.int .i64 n)) (show ((k+1:Nat):Int)=IntKind.i64.wrap ((k:Int)+1) by rw [wrap64 _ (by omega) (by omega)];omega)
    |(rw [hq];exact rfl)
    |rw [hq]
 ·have hge:k=o.toNat:=by have:=of_decide_eq_false e;omega
  subst hge
  refine Eq.trans (b:= .val (.one (.d (.list (PL ((partsL l m o).take o.toNat)))))) ?_ rfl
  rw [List.take_of_length_le (by omega)]
end
end Go.Proofs.YtpfemjpgbpnpkaaGreatDoor.eng
namespace Go.Proofs.YtpfemjpgbpnpkaaGreatDoor.eng
open Go.RowKit num mem seg q held ratA ratB ratC ratD ratE vars ratF trq
theorem Zrq (r:List (Rat×Rat)):List.map rdv (cvl r)=SL r:=by
 unfold cvl SL
 rw [List.map_map];rfl
theorem Zmw (rows:List (List (Rat×Rat))):List.map rdvs (rows.map cvl)=PL rows:=by
 unfold PL
 rw [List.map_map]
 congr 1
 funext r
 show [D.list (List.map rdv (cvl r))]=_
 rw [Zrq]
def rowsL (l m:List RV) (o:Int):List (List (RV×RV)):=(partsL l m o).map cvl
theorem ZgN (l m:List RV) (o:Int):(rowsL l m o).length=o.toNat:=by rw [rowsL,List.length_map,Zc8]
open Classical in
noncomputable def splitE (l m:List RV) (o:Int):Int:=if splitBad l m o then 1 else 0
open Classical in
noncomputable def splitV (l m:List RV) (o:Int):List (List (RV×RV)):=if splitBad l m o then [] else rowsL l m o
theorem ZdD {l m:List RV} {o:Int} (h:splitBad l m o):splitE l m o=1:=if_pos h
theorem ZdE {l m:List RV} {o:Int} (h:¬ splitBad l m o):splitE l m o=0:=if_neg h
theorem ZoZ {l m:List RV} {o:Int} (h:splitBad l m o):splitV l m o= []:=if_pos h
theorem Zi5 {l m:List RV} {o:Int} (h:¬ splitBad l m o):splitV l m o=rowsL l m o:=if_neg h
theorem Zgu {l m:List RV} {o:Int}:splitE l m o=0↔¬ splitBad l m o:=by
 by_cases h:splitBad l m o
 ·rw [ZdD h];simp [h]
 ·rw [ZdE h];simp [h]
theorem ZdC {l m:List RV} {o:Int} (h:¬ splitBad l m o):l.length=m.length∧l.length≤3∧1≤o∧o≤50:=by
 unfold splitBad at h
 omega
theorem Zmr {l m:List RV} {o:Int} (h:¬ splitBad l m o) (hl:∀ x,x∈l→x.z≤1048576) (hm:∀ x,x∈m→x.z≤1048576):∀ row,row∈rowsL l m o→row.length=l.length∧∀ p,p∈row→p.1.z≤3145760∧p.2.z≤3145760:=fun row hr=>by
 obtain⟨h1,h2,h3,h4⟩:=ZdC h
 obtain⟨r,hr2,rfl⟩:=List.mem_map.1 (show row∈List.map _ _ from hr)
 obtain⟨k,hk,rfl⟩:=List.mem_map.1 (show r∈List.map _ _ from hr2)
 have hk:k< o.toNat:=by simpa using hk
 have za:=Zdb (l:=l) (m:=m) (p:=(k:Int)) (o:=o) (Z:=1048576) (by omega) (by omega) (by omega) (by omega) hl hm
 have zb:=Zdb (l:=l) (m:=m) (p:=(k:Int)+1) (o:=o) (Z:=1048576) (by omega) (by omega) (by omega) (by omega) hl hm
 refine⟨by rw [Zsd,ZcC];omega,fun p hp=> ?_⟩
 obtain⟨q,hq,rfl⟩:=List.mem_map.1 (show p∈List.map _ _ from hp)
 obtain⟨i,hi⟩:=List.mem_iff_getElem?.1 hq
 have hi2:i< (stepL l m o k).length:=(List.getElem?_eq_some_iff.1 hi).1
 rw [ZcC] at hi2
 have ha:(midL l m (k:Int) o)[i]? =some _:=List.getElem?_eq_getElem (by rw [Zam];exact hi2)
 have hb:(midL l m ((k:Int)+1) o)[i]? =some _:=List.getElem?_eq_getElem (by rw [Zam];exact hi2)
 have e:=ZfB ha hb
 obtain rfl:=Option.some.inj (e.symm.trans hi)
 have ga:=za _ (List.mem_of_getElem? ha)
 have gb:=zb _ (List.mem_of_getElem? hb)
 simp only [cn_z]
 exact⟨Zm8 (by omega) (by omega),Znb (by omega) (by omega)⟩
noncomputable def motE (A:ArmV) (l m:List RV) (W:List (List (RV×RV))) (o:Int):Int:=
 if hasE A (l.length:Int)=0 then (if splitE l m o=0 then wallsE W else 1) else hasE A (l.length:Int)
noncomputable def motB (A:ArmV) (l m:List RV) (W:List (List (RV×RV))) (o:Int):Bool:=
 if motE A l m W o=0 then provedB A (rowsL l m o) W else false
section
variable {A : ArmV} {l m : List RV} {W : List (List (RV × RV))} {o : Int}
theorem ZfY (h:¬ hasE A (l.length:Int)=0):motE A l m W o=hasE A (l.length:Int):=if_neg h
theorem ZcK (h:hasE A (l.length:Int)=0) (g:splitBad l m o):motE A l m W o=1:=by
 unfold motE;rw [if_pos h,if_neg (by rw [ZdD g];decide)]
theorem ZfX (h:hasE A (l.length:Int)=0) (g:¬ splitBad l m o):motE A l m W o=wallsE W:=by
 unfold motE;rw [if_pos h,if_pos (ZdE g)]
theorem ZbK:motE A l m W o=0↔hasE A (l.length:Int)=0∧¬ splitBad l m o∧wallsE W=0:=by
 by_cases h:hasE A (l.length:Int)=0
 ·by_cases g:splitBad l m o
  ·rw [ZcK h g];simp [g]
  ·rw [ZfX h g];simp [h,g]
 ·rw [ZfY h];simp [h]
theorem Zic (h:motE A l m W o=0):motB A l m W o=provedB A (rowsL l m o) W:=if_pos h
theorem Zid (h:¬ motE A l m W o=0):motB A l m W o=false:=if_neg h
end
def cnrs (L:List B4):List (List (RV×RV)):=L.map fun b=>cvl (cnr b)
theorem Zof {L:List B4} {k:Nat} {b:B4} (h:L[k]? =some b):List.map rdvs (cnrs (L.take (k+1)))=List.map rdvs (cnrs (L.take k))++ [rdvs (cvl (cnr b))]:=by
 have e:L.take (k+1)=L.take k++ [b]:=by rw [List.take_add_one,h];rfl
 rw [e]
 simp [cnrs]
theorem Zj1 (L:List B4):(cnrs L).length=L.length:=List.length_map ..
theorem Zsi {A:ArmV} (hA:armE A=0) (Q:List (RV×RV)):∀ a,a∈cnrs (shbL A Q A.links.length)→okV a:=fun a ha=>by
 obtain⟨b,hb,rfl⟩:=List.mem_map.1 (show a∈List.map _ _ from ha)
 exact Zsj (Zrl hA Q b hb) (ZsJ hA Q b hb)
theorem Zhu (A:ArmV) (Q:List (RV×RV)) (W:List (List (RV×RV))):freeB (cnrs (shbL A Q A.links.length)) W=(shbL A Q A.links.length).all fun b=>clearB [cnr b] W:=Zk5 _ _
theorem Zsk {b:B4} (hz:b.z 400):∀ a,a∈ [cnr b]→okP a:=fun a ha=>by
 obtain rfl:=List.mem_singleton.1 ha
 obtain⟨⟨z1,z2⟩,z3,z4⟩:=hz
 refine⟨by show 4≤8;omega,fun p hp=> ?_⟩
 have hp:p=(b.xl,b.yl)∨p=(b.xh,b.yl)∨p=(b.xh,b.yh)∨p=(b.xl,b.yh):=by simpa [cnr] using hp
 rcases hp with rfl|rfl|rfl|rfl<;>(simp only;omega)
noncomputable def wayBase (A:ArmV) (L:List (List RV)):Int:=
 if armE A=0 then (if L.length=0 then 14 else if 60< L.length then 2 else 0) else armE A
theorem Zcg {A:ArmV} {L:List (List RV)} (h:¬ armE A=0):wayBase A L=armE A:=if_neg h
theorem Zce {A:ArmV} {L:List (List RV)} (h:armE A=0) (g:L.length=0):wayBase A L=14:=by unfold wayBase;rw [if_pos h,if_pos g]
theorem Zcf {A:ArmV} {L:List (List RV)} (h:armE A=0) (g:60< L.length):wayBase A L=2:=by unfold wayBase;rw [if_pos h,if_neg (by omega),if_pos g]
theorem ZbV {A:ArmV} {L:List (List RV)} (h:armE A=0) (g:¬ L.length=0) (k:¬ 60< L.length):wayBase A L=0:=by unfold wayBase;rw [if_pos h,if_neg g,if_neg k]
theorem ZdS {A:ArmV} {L:List (List RV)} (h:wayBase A L=0):armE A=0∧¬ L.length=0∧¬ 60< L.length:=by
 by_cases a:armE A=0
 ·refine⟨a,fun g=> ?_,fun g=> ?_⟩
  ·rw [Zce a g] at h;exact absurd h (by decide)
  ·rw [Zcf a g] at h;exact absurd h (by decide)
 ·rw [Zcg a] at h;exact absurd h a
section
variable {A : ArmV} {L : List (List RV)} {W : List (List (RV × RV))} {o : Int} {i : Nat}
end
noncomputable def chkF (A:ArmV) (L:List (List RV)) (i:Nat):Int:=if wayBase A L=0 then firstE (fun j=>hasE A ((wAt L j).length:Int)) i else wayBase A L
noncomputable def chkE (A:ArmV) (L:List (List RV)):Int:=chkF A L L.length
theorem ZaW {A:ArmV} {L:List (List RV)} (h:¬ wayBase A L=0):chkE A L=wayBase A L:=if_neg h
theorem Zok {A:ArmV} {L:List (List RV)} {i:Nat} {q:List RV} (h:wayBase A L=0) (hb:∀ j,j< i→hasE A ((wAt L j).length:Int)=0) (hq:L[i]? =some q) (he:¬ hasE A (q.length:Int)=0):chkE A L=hasE A (q.length:Int):=by
 unfold chkE chkF
 rw [if_pos h,Zes hb (by show hasE A ((wAt L i).length:Int)≠0;rw [Zal hq];exact he) (List.getElem?_eq_some_iff.1 hq).1,Zal hq]
theorem Zol {A:ArmV} {L:List (List RV)} (h:wayBase A L=0) (hb:∀ j,j< L.length→hasE A ((wAt L j).length:Int)=0):chkE A L=0:=by
 unfold chkE chkF
 rw [if_pos h,ZdO hb]
theorem Zgi {A:ArmV} {L:List (List RV)} (h:chkE A L=0):wayBase A L=0∧∀ j,j< L.length→hasE A ((wAt L j).length:Int)=0:=by
 by_cases b:wayBase A L=0
 ·refine⟨b,Zer ?_⟩
  unfold chkE chkF at h
  rw [if_pos b] at h;exact h
 ·rw [ZaW b] at h;exact absurd h b
theorem Zib {A:ArmV} {L:List (List RV)} {W:List (List (RV×RV))} {o:Int} (h:chkE A L=0) (g:motE A (wAt L 0) (wAt L 0) W o=0) {i k:Nat} (hi:i< L.length) (hk:k< L.length):motE A (wAt L i) (wAt L k) W o=0:=by
 obtain⟨_,hb⟩:=Zgi h
 obtain⟨g1,g2,g3⟩:=ZbK.1 g
 have h1:=hb i hi
 have h2:=(Z4.1 (hb k hk)).2
 have h3:=(Z4.1 h1).2
 have h4:=ZdC g2
 have h5:=(Z4.1 g1).2
 refine ZbK.2 ⟨h1,?_,g3⟩
 unfold splitBad
 omega
noncomputable def cutE (A:ArmV) (L:List (List RV)) (W:List (List (RV×RV))) (o:Int):Int:=if chkE A L=0 then motE A (wAt L 0) (wAt L 0) W o else chkE A L
def prv (A:ArmV) (L:List (List RV)) (W:List (List (RV×RV))) (o:Int) (i k:Nat):Bool:=provedB A (rowsL (wAt L i) (wAt L k) o) W
theorem ZmL {A:ArmV} {L:List (List RV)} {W:List (List (RV×RV))} {o:Int} (h:chkE A L=0) (g:motE A (wAt L 0) (wAt L 0) W o=0) {i k:Nat} (hi:i< L.length) (hk:k< L.length):motB A (wAt L i) (wAt L k) W o=prv A L W o i k:=Zic (Zib h g hi hk)
def nxt (P:Nat→Bool) (i:Nat):Nat→Nat
 |0=>i+1
 |d+1=>if P (i+1+(d+1))=true then i+1+(d+1) else nxt P i d
theorem ZcI (P:Nat→Bool) (i:Nat):∀ d,i+1≤nxt P i d∧nxt P i d≤i+1+d
 |0=>⟨Nat.le_refl _,Nat.le_refl _⟩
 |d+1=>by
  have:=ZcI P i d
  unfold nxt
  split<;>omega
def trail (P:Nat→Nat→Bool) (n:Nat):Nat→Nat→List Nat
 |0,_=> []
 |f+1,i=>if i+1< n then nxt (P i) i (n - 2 - i) :: trail P n f (nxt (P i) i (n - 2 - i)) else []
theorem ZbD {P:Nat→Nat→Bool} {n i:Nat} (h:¬ i+1< n):∀ f,trail P n f i= []
 |0=>rfl
 |f+1=>by unfold trail;rw [if_neg h]
theorem Zau {P:Nat→Nat→Bool} {n i:Nat} (h:i+1< n) (f:Nat):trail P n (f+1) i=nxt (P i) i (n - 2 - i) :: trail P n f (nxt (P i) i (n - 2 - i)):=by
 rw [trail,if_pos h]
section
variable {A : ArmV} {L : List (List RV)} {W : List (List (RV × RV))} {o : Int}
theorem Zoc (h:¬ chkE A L=0):cutE A L W o=chkE A L:=if_neg h
theorem Zfp (h:chkE A L=0):cutE A L W o=motE A (wAt L 0) (wAt L 0) W o:=if_pos h
end
def cutI (A:ArmV) (L:List (List RV)) (W:List (List (RV×RV))) (o:Int):List Nat:=trail (prv A L W o) L.length L.length 0
def rowQ (L:List (List RV)) (I:List Nat):List (List Rat):=I.map fun i=>gdL (wAt L i)
noncomputable def cutV (A:ArmV) (L:List (List RV)) (W:List (List (RV×RV))) (o:Int):List (List Rat):=if cutE A L W o=0 then rowQ L (0 :: cutI A L W o) else []
theorem Zgd {A:ArmV} {L:List (List RV)} {W:List (List (RV×RV))} {o:Int} (h:¬ cutE A L W o=0):cutV A L W o= []:=if_neg h
theorem ZbR {A:ArmV} {L:List (List RV)} {W:List (List (RV×RV))} {o:Int} (h:cutE A L W o=0):cutV A L W o=rowQ L (0 :: cutI A L W o):=if_pos h
theorem ZmN {P:Nat→Bool} {i k:Nat} (h:i+1< k) (hp:P k=true):nxt P i (k - (i+1))=k:=by
 obtain⟨d,hd⟩:∃ d,k - (i+1)=d+1:=⟨k - (i+1) - 1,by omega⟩
 rw [hd,nxt,if_pos (by rw [show i+1+(d+1)=k by omega];exact hp)]
 omega
theorem Zjt {P:Nat→Bool} {i k:Nat} (h:i+1< k) (hp:¬ P k=true):nxt P i (k - (i+1))=nxt P i (k - 1 - (i+1)):=by
 obtain⟨d,hd⟩:∃ d,k - (i+1)=d+1:=⟨k - (i+1) - 1,by omega⟩
 rw [hd,nxt,if_neg (by rw [show i+1+(d+1)=k by omega];exact hp),show k - 1 - (i+1)=d by omega]
theorem ZmO {P:Nat→Bool} {i k:Nat} (h:k=i+1):nxt P i (k - (i+1))=k:=by
 subst h;rw [Nat.sub_self];rfl
theorem Zjs {P:Nat→Bool} {i k:Nat} (h:i+2≤k):nxt P i (k+1 - (i+2))=if P k=true then k else nxt P i (k - (i+2)):=by
 obtain⟨d,rfl⟩:∃ d,k=i+2+d:=⟨k - (i+2),by omega⟩
 rw [show i+2+d+1 - (i+2)=d+1 by omega,show i+2+d - (i+2)=d by omega,nxt,show i+1+(d+1)=i+2+d by omega]
def trAV (d:Nat) (L:List (List RV)):List Nat→AV
 | []=> .val (.one (.full [[D.list (List.map rdc (gdL (wAt L 0)))]]))
 |_ :: _=> .val (.one (.row d 0))
def trOb (d:Nat) (L:List (List RV)):List Nat→List (Nat×Ob)
 | []=> []
 |c :: r=> [(d,.row 33 1 0 (List.map rdcs (rowQ L (0 :: c :: r))) true)]
end Go.Proofs.YtpfemjpgbpnpkaaGreatDoor.eng
