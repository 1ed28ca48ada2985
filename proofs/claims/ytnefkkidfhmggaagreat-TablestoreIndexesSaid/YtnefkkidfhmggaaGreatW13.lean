/- Part 13 of the proof: Gj, Gk, Gl, Gm, Gn, Gp -/
import Derived.Test.YtnefkkidfhmggaaGreatW12
import Derived.Test.YtnefkkidfhmggaaGreatW09
import Derived.Test.YtnefkkidfhmggaaGreatW10
import Derived.Test.YtnefkkidfhmggaaGreatW11
set_option maxHeartbeats 16000000
set_option maxRecDepth 100000
namespace Go.Proofs.YtnefkkidfhmggaaGreat
open Go Go.RowKit
noncomputable section
def Blks (c:Rw->Rw->Int) (s:Nat) (L:List (List Ri)):Prop:=∀l∈L,l.length=s/\AscC (cc c) l
theorem blks_len {c:Rw->Rw->Int} {s:Nat} {L:List (List Ri)} (h:Blks c s L):L.flatten.length=L.length * s:=by
 induction L with
 | nil=> simp
 | cons l L ih=>
  have h1:=(h l (by simp)).1;rw [List.flatten_cons,List.length_append,ih λ x hx=> h x (List.mem_cons_of_mem _ hx),h1,List.length_cons,Nat.add_mul];omega
structure Pass (c:Rw->Rw->Int) (X:List Ri) (s a:Nat) (M L:List (List Ri)) (t:List Ri):Prop where
 m:Blks c (2 * s) M
 l:Blks c s L
 asc:AscC (cc c) t
 lt:t.length < s
 at':M.flatten.length=a
 st:StEq (cc c) X (M.flatten++L.flatten++t)
structure Base (c:Rw->Rw->Int) (X:List Ri) (s a:Nat) (L:List (List Ri)) (R:List Ri):Prop where
 l:Blks c s L
 at':L.flatten.length=a
 st:StEq (cc c) X (L.flatten++R)
theorem base_add {c:Rw->Rw->Int} {X:List Ri} {s a:Nat} {L:List (List Ri)} {u R Z:List Ri} (h:Base c X s a L (u++R)) (hu:u.length=s) (hc:Ord3 (cc c)) (hz:AscC (cc c) Z) (he:StEq (cc c) u Z):Base c X s (a+s) (L++[Z]) R:=by
 have hl:=(he.perm hc).length_eq;refine ⟨λ l hl'=> ?_,?_,?_⟩
 · rcases List.mem_append.1 hl' with h1 | h1
   · exact h.l l h1
   · rw [List.mem_singleton.1 h1];exact ⟨by omega,hz⟩
 · rw [List.flatten_append,List.length_append,h.at'];simp;omega
 · refine h.st.trans ?_
   rw [List.flatten_append,List.append_assoc];refine (StEq.refl _).app ?_;simpa using he.app (StEq.refl R)
theorem pass_start {c:Rw->Rw->Int} (hc:Ord3 (cc c)) {X:List Ri} {s a:Nat} {L:List (List Ri)} {R Z:List Ri} (h:Base c X s a L R) (hz:AscC (cc c) Z) (he:StEq (cc c) R Z) (hl:R.length < s):Pass c X s 0 [] L Z:=
 ⟨(λ l h=> by cases h),h.l,hz,by have:=(he.perm hc).length_eq;omega,rfl,by rw [List.flatten_nil,List.nil_append];exact h.st.trans ((StEq.refl _).app he)⟩
theorem pass_step {c:Rw->Rw->Int} (hc:Ord3 (cc c)) {X:List Ri} {s a:Nat} {M L:List (List Ri)} {x y t Z:List Ri} (h:Pass c X s a M (x::y::L) t) (hz:AscC (cc c) Z) (he:StEq (cc c) (x++y) Z):Pass c X s (a+2 * s) (M++[Z]) L t:=by
 have hl:=(he.perm hc).length_eq;have l1:=(h.l x (by simp)).1;have l2:=(h.l y (by simp)).1;rw [List.length_append] at hl;refine ⟨λ l hl'=> ?_,λ l hl'=> h.l l (by simp [hl']),h.asc,h.lt,?_,?_⟩
 · rcases List.mem_append.1 hl' with h1 | h1
   · exact h.m l h1
   · rw [List.mem_singleton.1 h1];exact ⟨by omega,hz⟩
 · rw [List.flatten_append,List.length_append,h.at'];simp;omega
 · refine h.st.trans ?_
   have:=((StEq.refl (c:=cc c) M.flatten).app he).app (StEq.refl (c:=cc c) (L.flatten++t));simpa only [List.flatten_append,List.flatten_cons,List.flatten_nil,List.append_assoc,List.append_nil] using this
theorem pass_next {c:Rw->Rw->Int} (hc:Ord3 (cc c)) {X:List Ri} {s a:Nat} {M L:List (List Ri)} {t Z:List Ri} (h:Pass c X s a M L t) (hz:AscC (cc c) Z) (he:StEq (cc c) (L.flatten++t) Z) (hl:(L.flatten++t).length < 2 * s):Pass c X (2 * s) 0 [] M Z:=
 ⟨(λ l h=> by cases h),h.m,hz,by have:=(he.perm hc).length_eq;omega,rfl,by rw [List.flatten_nil,List.nil_append];have:=h.st;rw [List.append_assoc] at this;exact this.trans ((StEq.refl _).app he)⟩
theorem pass_end {c:Rw->Rw->Int} {X:List Ri} {s n:Nat} {L:List (List Ri)} {t:List Ri} (h:Pass c X s 0 [] L t) (hn:(L.flatten++t).length=n) (hs:n<=s) (h0:0 < s):AscC (cc c) (L.flatten++t):=by
 have hb:=blks_len h.l;rw [List.length_append,hb] at hn
 match L with
 | []=> simpa using h.asc
 | [l]=> have ht:t=[]:=List.length_eq_zero_iff.1 (by simp at hn;omega);rw [ht];simpa using (h.l l (by simp)).2
 | l::l'::L'=> exfalso;simp only [List.length_cons,Nat.add_mul] at hn;omega
theorem pass_len {c:Rw->Rw->Int} {X:List Ri} {s a n:Nat} {M L:List (List Ri)} {t:List Ri} (h:Pass c X s a M L t) (hn:(M.flatten++L.flatten++t).length=n):a+L.length * s+t.length=n:=by
 have:=blks_len h.l;have:=h.at';simp only [List.length_append] at hn;omega
theorem stable_calls (K:FuncId) (cap:Array Value) (c:Rw->Rw->Int) (w0:World) (B g n cp:Nat) (X:List Ri) (w:World)
 (hC:CmpOk K cap c X w0 g) (hA:Arr w0 B g n cp X w) (hmx:n<=1099511627776):
 Calls Tryz.prog 92 #[.slice (some ⟨g,0,none⟩) n cp, .int .i64 n, .func (.func K) #[] cap] w (SortsTo w0 B g n cp c [] X []):=by
 have hlen:=hA.len;have HL:=Lib.hid hlen;have HA:=Lib.hid hA;have HC:=Lib.hid hC;have HM:=Lib.hid hmx;clear hA hlen hC;go_enter Tryz.func92,Tryz.ntmps92;go_wp2;go_loopg [7,8] n (λ gk z7 z8 wr=> ∃a:Nat,a<=n/\z7=.int .i64 a/\z8=.int .i64 ((a:Int)+20)/\gk+a=n/\Hid (∃L R,Base c X 20 a L R/\Arr w0 B g n cp (L.flatten++R) wr))
 case atStart=> exact ⟨0,Nat.zero_le _,rfl,rfl,by omega,Lib.hid ⟨[],X,⟨(λ l h=> by cases h),rfl,StEq.refl _⟩,by simpa using HA.out⟩⟩
 case round=>
  clear HA;obtain ⟨a,han,rfl,rfl,hgk,Hs⟩:=hrel;obtain ⟨L,R,hb,hA⟩:=Hs.out;have HB:=Lib.hid hb;have HA:=Lib.hid hA;have Hgk:=Lib.hid hgk;have hRl:R.length=n - a:=by have:=hA.len;have:=hb.at';rw [List.length_append] at *;omega
  have HRl:=Lib.hid hRl;have hbm:(a:Int)+20<=9223372036854775807:=by omega
  have hbm2:(a:Int)+20+20<=9223372036854775807:=by omega
  clear Hs hb hA hgk;by_cases hle:a+20<=n
  · obtain ⟨u,R',hu,lu1,lu2⟩:=split2 R 20 (by omega)
    have HI:=Lib.hid (insertion_calls K cap c X w0 B g n cp L.flatten u R' wr a (a+20) HB.out.at' (by omega) HC.out (λ x hx=> HB.out.st.mem HC.out.ord (by rw [hu];simp [hx])) (by have:=HA.out;rw [hu] at this;simpa only [List.append_assoc] using this) HM.out);rw [show ((a+20:Nat):Int)=(a:Int)+20 by omega] at HI;have HN:Hid (∀Z wx,AscC (cc c) Z->StEq (cc c) u Z->Arr w0 B g n cp (L.flatten++Z++R') wx->Hid (∃L R,Base c X 20 (a+20) L R/\Arr w0 B g n cp (L.flatten++R) wx)):=by refine Lib.hid λ Z wx h1 h2 h3=> Lib.hid ⟨L++[Z],R',base_add (by have:=HB.out;rwa [hu] at this) lu1 HC.out.ord h1 h2,?_⟩;simpa only [List.flatten_append,List.flatten_cons,List.flatten_nil,List.append_nil,List.append_assoc] using h3
    clear hu lu1 lu2 hRl;have hle2:(a:Int)+20<=n:=by omega
    go_wp2_with fail;(with_reducible refine HI.out.mono ?_);rintro e w1 ⟨rfl,Z,h1,h2,h3⟩;have H1:=HN.out Z w1 h1 h2 h3;clear h1 h2 h3 HI HN;go_wp2;go_roundg (gk - 20)
    case rel=> exact ⟨a+20,hle,by go_num,by go_num,by have:=Hgk.out;omega,H1⟩
    case measure=> have:=Hgk.out;omega
  · have HI:=Lib.hid (insertion_calls K cap c X w0 B g n cp L.flatten R [] wr a n HB.out.at' (by omega) HC.out (λ x hx=> HB.out.st.mem HC.out.ord (by simp [hx])) (by have:=HA.out;simpa only [List.append_nil] using this) HM.out)
    have HN:Hid (∀Z wx,AscC (cc c) Z->StEq (cc c) R Z->Arr w0 B g n cp (L.flatten++Z++[]) wx->Hid (∃L t,Pass c X 20 0 [] L t/\Arr w0 B g n cp (L.flatten++t) wx)):=
     Lib.hid λ Z wx h1 h2 h3=> Lib.hid ⟨L,Z,pass_start HC.out.ord HB.out h1 h2 (by omega),by simpa only [List.append_nil] using h3⟩
    clear hRl;have hle2:¬ (a:Int)+20<=n:=by omega
    go_wp2_with fail;(with_reducible refine HI.out.mono ?_);rintro e w1 ⟨rfl,Z,h1,h2,h3⟩;have H1:=HN.out Z w1 h1 h2 h3;clear h1 h2 h3 HI HN HB HA HRl Hgk hle hle2 hbm hbm2;go_wp2;go_loopg [6] n (λ gk z6 wr=> ∃s:Nat,20<=s/\s<=2 * n+20/\z6=.int .i64 s/\n<=gk+s/\Hid (∃L t,Pass c X s 0 [] L t/\Arr w0 B g n cp (L.flatten++t) wr))
    case atStart=> exact ⟨20,Nat.le_refl _,by omega,rfl,by omega,H1⟩
    case round=>
     clear H1;obtain ⟨s,hs1,hs2,rfl,hgk,Hs⟩:=hrel;have Hgk:=Lib.hid hgk;clear hgk;by_cases hsn:s < n
     · have hm1:(2:Int) * s<=9223372036854775807:=by omega
       have hm1':(s:Int) * 2<=9223372036854775807:=by omega
       go_wp2;go_loopg [7,8] n (λ gj z7 z8 wr=> ∃a:Nat,a<=n/\z7=.int .i64 a/\z8=.int .i64 ((a:Int)+2 * s)/\gj+a=n/\Hid (∃M L t,Pass c X s a M L t/\Arr w0 B g n cp (M.flatten++L.flatten++t) wr))
       case atStart=>
        refine ⟨0,Nat.zero_le _,rfl,by go_num,by omega,?_⟩;obtain ⟨L,t,h1,h2⟩:=Hs.out;exact Lib.hid ⟨[],L,t,h1,by simpa using h2⟩
       case round=>
        clear Hs;obtain ⟨a,han,rfl,rfl,hgj,Hs⟩:=hrel;obtain ⟨M,L,t,hp,hA⟩:=Hs.out;have HP:=Lib.hid hp;have HA:=Lib.hid hA;have Hgj:=Lib.hid hgj;have hl:=pass_len hp hA.len;have HlL:=Lib.hid hl;have hlt:=hp.lt;have hlat:=hp.at';have hq1:(a:Int)+2 * s<=9223372036854775807:=by omega
        have hq2:(a:Int)+s<=9223372036854775807:=by omega
        have hq3:(a:Int)+2 * s+2 * s<=9223372036854775807:=by omega
        clear Hs hp hA hgj;by_cases hle:a+2 * s<=n
        · have hL2:∃x y L',L=x::y::L':=by
           match L with
           | []=> simp at hl;omega
           | [x]=> simp at hl;omega
           | x::y::L'=> exact ⟨x,y,L',rfl⟩
          obtain ⟨x,y,L',rfl⟩:=hL2;have lx:=HP.out.l x (by simp);have ly:=HP.out.l y (by simp);have HI:=Lib.hid (symMerge_calls K cap c X w0 B g n cp HC.out HM.out (2 * s+1) M.flatten x y (L'.flatten++t) wr a (a+s) (a+2 * s) (by omega) hlat (by omega) (by omega) (by omega) (by omega) (λ z hz=> HP.out.st.mem HC.out.ord (by simp only [List.flatten_cons,List.mem_append] at hz ⊢;rcases hz with hz | hz <;> simp [hz])) lx.2 ly.2 (by have:=HA.out;simpa only [List.flatten_cons,List.append_assoc] using this));rw [show ((a+s:Nat):Int)=(a:Int)+s by omega,show ((a+2 * s:Nat):Int)=(a:Int)+2 * s by omega] at HI;have HN:Hid (∀Z wx,AscC (cc c) Z->StEq (cc c) (x++y) Z->Arr w0 B g n cp (M.flatten++Z++(L'.flatten++t)) wx->Hid (∃M L t,Pass c X s (a+2 * s) M L t/\Arr w0 B g n cp (M.flatten++L.flatten++t) wx)):=by refine Lib.hid λ Z wx h1 h2 h3=> Lib.hid ⟨M++[Z],L',t,pass_step HC.out.ord HP.out h1 h2,?_⟩;simpa only [List.flatten_append,List.flatten_cons,List.flatten_nil,List.append_nil,List.append_assoc] using h3
          clear lx ly hl hlt hlat;have hle2:(a:Int)+2 * s<=n:=by omega
          go_wp2_with fail;(with_reducible refine HI.out.mono ?_);rintro e w1 ⟨rfl,Z,h1,h2,h3⟩;have H1:=HN.out Z w1 h1 h2 h3;clear h1 h2 h3 HI HN;go_wp2;go_roundg (gk - 2 * s)
          case rel=> exact ⟨a+2 * s,hle,by go_num,by go_num,by have:=Hgj.out;omega,H1⟩
          case measure=> have:=Hgj.out;omega
        · have HN:Hid (∀Z wx,AscC (cc c) Z->StEq (cc c) (L.flatten++t) Z->Arr w0 B g n cp (M.flatten++Z) wx->Hid (∃L t,Pass c X (2 * s) 0 [] L t/\Arr w0 B g n cp (L.flatten++t) wx)):=
           Lib.hid λ Z wx h1 h2 h3=> Lib.hid ⟨M,Z,pass_next HC.out.ord HP.out h1 h2 (by rw [List.length_append,blks_len HP.out.l];omega),h3⟩
          have hle2:¬ (a:Int)+2 * s<=n:=by omega
          by_cases hmn:a+s < n
          · have hL1:∃x,L=[x]/\0 < t.length:=by
             match L with
             | []=> simp at hl;omega
             | [x]=> exact ⟨x,rfl,by simp at hl;omega⟩
             | x::y::L'=> exfalso;simp only [List.length_cons,Nat.add_mul] at hl;omega
            obtain ⟨x,rfl,ht0⟩:=hL1;have lx:=HP.out.l x (by simp);have HI:=Lib.hid (symMerge_calls K cap c X w0 B g n cp HC.out HM.out (2 * s+1) M.flatten x t [] wr a (a+s) n (by omega) hlat (by omega) (by simp at hl;omega) (by omega) ht0 (λ z hz=> HP.out.st.mem HC.out.ord (by simp only [List.flatten_cons,List.mem_append] at hz ⊢;rcases hz with hz | hz <;> simp [hz])) lx.2 HP.out.asc (by have:=HA.out;simpa only [List.flatten_cons,List.flatten_nil,List.append_nil,List.append_assoc] using this));rw [show ((a+s:Nat):Int)=(a:Int)+s by omega] at HI;have HN2:Hid (∀Z wx,AscC (cc c) Z->StEq (cc c) (x++t) Z->Arr w0 B g n cp (M.flatten++Z++[]) wx->Hid (∃L t,Pass c X (2 * s) 0 [] L t/\Arr w0 B g n cp (L.flatten++t) wx)):=
             Lib.hid λ Z wx h1 h2 h3=> HN.out Z wx h1 (by simpa using h2) (by simpa using h3)
            clear lx hl hlt hlat ht0 HN;have hmn2:(a:Int)+s < n:=by omega
            go_wp2_with fail;(with_reducible refine HI.out.mono ?_);rintro e w1 ⟨rfl,Z,h1,h2,h3⟩;have H1:=HN2.out Z w1 h1 h2 h3;clear h1 h2 h3 HI HN2;go_wp2;go_roundg (n - 2 * s)
            case rel=> exact ⟨2 * s,by omega,by omega,by go_num,by omega,H1⟩
            case measure=> have:=Hgk.out;omega
          · have H1:=HN.out (L.flatten++t) wr (by
             match L with
             | []=> simpa using HP.out.asc
             | [x]=> have ht:t=[]:=List.length_eq_zero_iff.1 (by simp at hl;omega);rw [ht];simpa using (HP.out.l x (by simp)).2
             | x::y::L'=> exfalso;simp only [List.length_cons,Nat.add_mul] at hl;omega) (StEq.refl _) (by have:=HA.out;rwa [List.append_assoc] at this)
            have hmn2:¬ (a:Int)+s < n:=by omega
            clear HN hl hlt hlat;go_wp2;go_roundg (n - 2 * s)
            case rel=> exact ⟨2 * s,by omega,by omega,by go_num,by omega,H1⟩
            case measure=> have:=Hgk.out;omega
     · obtain ⟨L,t,hp,hA⟩:=Hs.out
       have HE:=Lib.hid (pass_end hp hA.len (by omega) (by omega));have HS:=Lib.hid hp.st;have HA:=Lib.hid hA;have hsn2:¬ (s:Int) < n:=by omega
       clear hp hA Hs;go_wp2;go_end0;exact ⟨rfl,_,HE.out,by have:=HS.out;rwa [List.flatten_nil,List.nil_append] at this,by have:=HA.out;simpa using this⟩
theorem sortStable_calls (K:FuncId) (cap:Array Value) (c:Rw->Rw->Int) (w0:World) (B g n cp:Nat) (X:List Ri) (w:World)
 (hC:CmpOk K cap c X w0 g) (hA:Arr w0 B g n cp X w) (hmx:n<=1099511627776):
 Calls Tryz.prog 60 #[.slice (some ⟨g,0,none⟩) n cp, .func (.func K) #[] cap] w (SortsTo w0 B g n cp c [] X []):=by
 have HS:=Lib.hid (stable_calls K cap c w0 B g n cp X w hC hA hmx);clear hC hA;go_enter Tryz.func60,Tryz.ntmps60;go_wp2_with fail;(with_reducible refine HS.out.mono ?_);rintro e w1 ⟨rfl,Z,h1,h2,h3⟩;have H1:=Lib.hid (show ∃Z,AscC (cc c) Z/\StEq (cc c) X Z/\Arr w0 B g n cp ([]++Z++[]) w1 from ⟨Z,h1,h2,h3⟩);clear h1 h2 h3 HS;go_wp2;go_end0;exact ⟨rfl,H1.out⟩
theorem range21_calls (c:Nat) (x y:Ri) (b5:Nat) (w:World) (hx:ValsAt w x.r x.v) (hy:ValsAt w y.r y.v) (e5:w.cell? ⟨b5,0,none⟩=some (.int .i64 c)) (hcx:c < x.r.length) (hcy:c < y.r.length):
 Calls Tryz.prog 61 #[.agg #[.int .i64 x.id, .slice x.a x.n x.c], .agg #[.int .i64 y.id, .slice y.a y.n y.c], .pointer (some ⟨b5,0,none⟩)] w λ e w'=> e=.returned (.int .i64 (cmpV (x.r[c]'hcx) (y.r[c]'hcy)))/\Below w.heap.size w w':=by
 obtain ⟨xi,xa,xn,xc,xr⟩:=x;obtain ⟨yi,ya,yn,yc,yr⟩:=y;unfold Ri.v at hx hy;simp only at hx hy hcx hcy ⊢;obtain ⟨a1,n1,c1,e1,hn1,hm1⟩:=hx.shape;obtain ⟨rfl,rfl,rfl⟩:=Value.slice.inj e1;obtain ⟨a2,n2,c2,e2,hn2,hm2⟩:=hy.shape;obtain ⟨rfl,rfl,rfl⟩:=Value.slice.inj e2;unfold maxLen at hm1 hm2;obtain ⟨b,o,rfl⟩:=hx.has c (by omega);obtain ⟨d,p,rfl⟩:=hy.has c (by omega);obtain ⟨p0,p1,p2⟩:=hx.cell c hcx;obtain ⟨q0,q1,q2⟩:=hy.cell c hcy;have hcn:(c:Int) < xn:=by omega
 have hcn2:(c:Int) < yn:=by omega
 have HC:=Lib.hid (λ w'=> cmpV_calls (xr[c]'hcx) (yr[c]'hcy) w');generalize xr[c]'hcx=x at *;generalize yr[c]'hcy=y at *;generalize cmpV x y=z at *;obtain ⟨xk,xj,xt⟩:=x;obtain ⟨yk,yj,yt⟩:=y;simp only at p0 p1 p2 q0 q1 q2 HC;clear hx hy hn1 hn2 e1 e2 hcx hcy;have HB:=Lib.hid (((Below.refl _ w).alloc (Nat.le_refl _) (.cells #[.int .i64 xi, .slice (some ⟨b,o,none⟩) xn xc] 114)).alloc (by rw [World.size_alloc];exact Nat.le_succ _) (.cells #[.int .i64 yi, .slice (some ⟨d,p,none⟩) yn yc] 114));have hS:=((St.start (w:=w) (L:=[]) (fp:=[]) rfl).newblk 114 #[.int .i64 xi, .slice (some ⟨b,o,none⟩) xn xc]).newblk 114 #[.int .i64 yi, .slice (some ⟨d,p,none⟩) yn yc];simp only [World.size_alloc] at hS;go_enter Tryz.func61,Tryz.ntmps61;go_upto_region 1 with (fail)
 generalize hW:(w.alloc _).alloc _=W at *;have hpl:=World.block_lt_of_cell? w _ p0;have hql:=World.block_lt_of_cell? w _ q0;have hel:=World.block_lt_of_cell? w _ e5;replace p0:=(HB.out.cell (p:=⟨b,o+c * 3,none⟩) hpl).trans p0;replace p1:=(HB.out.cell (p:=⟨b,o+c * 3+1,none⟩) hpl).trans p1;replace p2:=(HB.out.cell (p:=⟨b,o+c * 3+2,none⟩) hpl).trans p2;replace q0:=(HB.out.cell (p:=⟨d,p+c * 3,none⟩) hql).trans q0;replace q1:=(HB.out.cell (p:=⟨d,p+c * 3+1,none⟩) hql).trans q1;replace q2:=(HB.out.cell (p:=⟨d,p+c * 3+2,none⟩) hql).trans q2;replace e5:=(HB.out.cell (p:=⟨b5,_,none⟩) hel).trans e5;obtain ⟨_,hb1⟩:=hS.has 0 rfl;obtain ⟨_,hb0⟩:=hS.has 1 rfl;obtain ⟨k0, -,kl⟩:=blk_get hb0;obtain ⟨m0, -,ml⟩:=blk_get hb1;have k1:=k0 1;have m1:=m0 1;simp only [List.getElem?_toArray,List.getElem?_cons_zero,List.getElem?_cons_succ] at k1 m1;clear hS hW hpl hql hel hb0 hb1 k0 m0;obtain ⟨B,hB⟩:∃B,w.heap.size=B:=⟨_,rfl⟩
 rw [hB] at k1 kl m1 ml ⊢;obtain ⟨B1,hB1⟩:∃B1,B+1=B1:=⟨_,rfl⟩
 rw [hB1] at m1 ml ⊢;clear hB1 hB;have hpl:=World.block_lt_of_cell? W _ p0;have hql:=World.block_lt_of_cell? W _ q0;have hel:=World.block_lt_of_cell? W _ e5;go_region_held3 (λ w'=> Below W.heap.size W w'/\∀b o,b < W.heap.size->w'.cell? ⟨b,o,none⟩=W.cell? ⟨b,o,none⟩)
  (first | assumption | exact S_of (Below.drew (Below.refl _ _)) | exact S_step (by assumption) (by assumption))
  (first | ((with_reducible refine (HC.out _).mono ?_);rintro e w1 ⟨rfl,hb1⟩))
 all_goals
  rename_i hH
  have Hb:=Lib.hid (HB.out.trans (hH.1.mono HB.out.size));clear hH;go_wp2;go_ret;exact ⟨rfl,Hb.out⟩
def cmpC (c:Nat) (r s:Rw):Int:=cmpV (colV r c) (colV s c)
theorem cmpC_ord (c:Nat):Ord3 (cc (cmpC c)):=by
 refine ⟨λ x y=> ?_,λ x y z h1 h2=> ?_⟩
 · have:=cmpV_swap (colV x.r c) (colV y.r c)
   unfold cc cmpC;omega
 · unfold cc cmpC at *
   by_cases e1:cmpV (colV x.r c) (colV y.r c)=0
   · rw [cmpV_zero.1 e1];exact h2
   · by_cases e2:cmpV (colV y.r c) (colV z.r c)=0
     · rw [<-cmpV_zero.1 e2];exact h1
     · have:=cmpV_trans (a:=colV x.r c) (b:=colV y.r c) (c:=colV z.r c) (by omega) (by omega)
       omega
theorem stable_uniq {α:Type} {c:α->α->Int} (hc:Ord3 c):∀{l m:List α},AscC c l->AscC c m->StEq c l m->l=m
 | [],m,_,_,h=> by have:=(h.perm hc).length_eq;exact (List.length_eq_zero_iff.1 this.symm).symm
 | x::l,[],_,_,h=> by have:=(h.perm hc).length_eq;simp at this
 | x::l,y::m,h1,h2,h=> by
  obtain ⟨a1,a2⟩:=List.pairwise_cons.1 h1;obtain ⟨b1,b2⟩:=List.pairwise_cons.1 h2;have hxy:c x y<=0:=by
   rcases List.mem_cons.1 (h.mem hc (List.mem_cons_self ..):y∈x::l) with e | e
   · rw [e,hc.self];exact Int.le_refl _
   · exact a1 y e
  have hyx:c y x<=0:=by
   rcases List.mem_cons.1 (h.symm.mem hc (List.mem_cons_self ..):x∈y::m) with e | e
   · rw [e,hc.self];exact Int.le_refl _
   · exact b1 x e
  have e0:c y x=0:=by have:=hc.anti x y;have:=hc.anti y x;omega
  have e1:=h x;rw [List.filter_cons_of_pos (by simp [hc.self]),List.filter_cons_of_pos (by simp [e0])] at e1;obtain ⟨rfl, -⟩:=List.cons.inj e1;congr 1;refine stable_uniq hc a2 b2 λ z=> ?_;have e2:=h z;by_cases hz:(c x z==0)=true
  · rw [List.filter_cons,List.filter_cons,if_pos hz,if_pos hz] at e2
    exact (List.cons.inj e2).2
  · rwa [List.filter_cons,List.filter_cons,if_neg hz,if_neg hz] at e2
def sortR (c:Nat) (its:List Ri):List Ri:=its.mergeSort λ x y=> decide (cc (cmpC c) x y<=0)
theorem sortR_ok (c:Nat) (its:List Ri):AscC (cc (cmpC c)) (sortR c its)/\StEq (cc (cmpC c)) its (sortR c its):=by
 have ho:=cmpC_ord c;have ht:∀x y z:Ri,decide (cc (cmpC c) x y<=0)=true->decide (cc (cmpC c) y z<=0)=true->decide (cc (cmpC c) x z<=0)=true:=λ x y z h1 h2=> by simp only [decide_eq_true_eq] at *;exact ho.trans x y z h1 h2
 have hq:∀x y:Ri,(decide (cc (cmpC c) x y<=0) || decide (cc (cmpC c) y x<=0))=true:=λ x y=> by have:=ho.anti x y;have:=ho.anti y x;simp only [Bool.or_eq_true,decide_eq_true_eq];omega
 refine ⟨(List.pairwise_mergeSort ht hq its).imp λ h=> of_decide_eq_true h,λ z=> ?_⟩;have h1:(its.filter λ x=> cc (cmpC c) x z==0).Pairwise λ a b=> decide (cc (cmpC c) a b<=0)=true:=by refine List.pairwise_iff_forall_sublist.2 λ {a b} hs=> ?_;have ha:=(List.mem_filter.1 (hs.subset (List.mem_cons_self ..))).2;have hb:=(List.mem_filter.1 (hs.subset (List.mem_cons_of_mem _ (List.mem_cons_self ..)))).2;simp only [beq_iff_eq] at ha hb;have:=ho.eq_cases hb ha;simp only [decide_eq_true_eq];omega
 have h2:=(List.sublist_mergeSort ht hq h1 List.filter_sublist).filter λ x=> cc (cmpC c) x z==0;rw [List.filter_filter] at h2;simp only [Bool.and_self] at h2;refine h2.eq_of_length ?_;rw [<-List.countP_eq_length_filter,<-List.countP_eq_length_filter];exact ((List.mergeSort_perm its _).countP_eq _).symm
theorem sortR_eq {c:Nat} {its Z:List Ri} (h1:AscC (cc (cmpC c)) Z) (h2:StEq (cc (cmpC c)) its Z):Z=sortR c its:=
 stable_uniq (cmpC_ord c) h1 (sortR_ok c its).1 (h2.symm.trans (sortR_ok c its).2)
theorem insertion_nil (F:Value) (w:World):Calls Tryz.prog 112 #[.slice none 0 0, .int .i64 0, .int .i64 0,F] w λ e w'=> e=.returned (.tuple #[])/\w=w':=by
 go_enter Tryz.func112,Tryz.ntmps112;go_wp2;go_loopw [8] (λ z8 wr=> z8=.int .i64 1/\w=wr) (λ _ _=> 0)
 case atStart=> exact ⟨by go_num,rfl⟩
 case round=>
  obtain ⟨rfl,rfl⟩:=hrel;go_wp2;go_end0;exact ⟨rfl,rfl⟩
theorem stable_nil (F:Value) (w:World):Calls Tryz.prog 92 #[.slice none 0 0, .int .i64 0,F] w λ e w'=> e=.returned (.tuple #[])/\w=w':=by
 have HI:=Lib.hid (insertion_nil F w);go_enter Tryz.func92,Tryz.ntmps92;go_wp2;go_loopw [7,8] (λ z7 z8 wr=> z7=.int .i64 0/\z8=.int .i64 20/\w=wr) (λ _ _ _=> 0)
 case atStart=> exact ⟨rfl,rfl,rfl⟩
 case round=>
  obtain ⟨rfl,rfl,rfl⟩:=hrel;go_wp2_with fail;(with_reducible refine HI.out.mono ?_);rintro e w1 ⟨rfl,rfl⟩;clear HI;go_wp2;go_loopw [6] (λ z6 wr=> z6=.int .i64 20/\w=wr) (λ _ _=> 0)
  case atStart=> exact ⟨rfl,rfl⟩
  case round=>
   obtain ⟨rfl,rfl⟩:=hrel;go_wp2;go_end0;exact ⟨rfl,rfl⟩
theorem sort_nil (F:Value) (w:World):Calls Tryz.prog 60 #[.slice none 0 0,F] w λ e w'=> e=.returned (.tuple #[])/\w=w':=by
 have HI:=Lib.hid (stable_nil F w);go_enter Tryz.func60,Tryz.ntmps60;go_wp2_with fail;(with_reducible refine HI.out.mono ?_);rintro e w1 ⟨rfl,rfl⟩;clear HI;go_wp2;go_end0;exact ⟨rfl,rfl⟩
theorem sort_st (c b5:Nat) (its:List Ri) (v:Value) (hlen:its.length<=1099511627776) (w0 w:World) (fp0:List Nat) (R:List Asn) (hr:Rd w0 fp0 R λ w=> w.cell? ⟨b5,0,none⟩=some (.int .i64 c)/\∀x∈its,ValsAt w x.r x.v) (hc:∀x∈its,c < x.r.length) (hS:St w0 fp0 (rowA 114 2 v its.length (riV its)::R) w):
 Calls Tryz.prog 60 #[v, .func (.func 61) #[] #[.pointer (some ⟨b5,0,none⟩)]] w λ e w'=> e=.returned (.tuple #[])/\St w0 fp0 (rowA 114 2 v its.length (riV (sortR c its))::R) w':=by
 obtain ⟨f,hp,hk⟩:=hS.get 0 rfl;have hp0:=hp;obtain ⟨ho,hf⟩:=hp;rcases ho.2 with ⟨rfl,h0⟩ | ⟨g,cap,cur,rfl,hb,hg,hn,hcm,hcs,ht⟩
 · have e:=List.length_eq_zero_iff.1 h0
   subst e;refine (sort_nil _ w).mono ?_;rintro e w' ⟨rfl,rfl⟩;refine ⟨rfl,?_⟩;rw [<-sortR_eq (c:=c) (its:=[]) (Z:=[]) List.Pairwise.nil (StEq.refl _)];exact hS
 · have hf':f=[g]:=by rw [hf];rfl
   subst hf';have hA:Arr w 0 g its.length cap its w:=⟨ho,⟨rfl,rfl,rfl,Nat.le_refl _,λ _ _ _=> rfl⟩⟩
   have hC:CmpOk 61 #[.pointer (some ⟨b5,0,none⟩)] (cmpC c) its w g:=by
    refine ⟨enters_own Tryz.func61 (by kernel_rfl) rfl,λ x hx y hy w' hg'=> ?_,cmpC_ord c⟩;have h1:St w0 fp0 (emp::R) w':=hk emp w' [] rfl ⟨hg'.os,hg'.tape,hg'.output,hg'.size,λ k hk hn=> hg'.block k hk (λ e=> hn (by cases e;simp)),λ _ h=> nomatch h⟩;obtain ⟨h5,hv⟩:=hr.at (M:=[emp]) h1;have e1:=hc x hx;have e2:=hc y hy;have:=range21_calls c x y b5 w' (hv x hx) (hv y hy) h5 e1 e2
    rwa [show cmpV (x.r[c]'e1) (y.r[c]'e2)=cmpC c x.r y.r from by unfold cmpC;rw [colV_at (by omega) (by simpa using e1),colV_at (by omega) (by simpa using e2)];rfl] at this
   refine (sortStable_calls 61 _ (cmpC c) w 0 g its.length cap its w hC hA hlen).mono ?_;rintro e w' ⟨rfl,Z,h1,h2,h3⟩;rw [List.nil_append,List.append_nil] at h3;refine ⟨rfl,?_⟩;rw [<-sortR_eq h1 h2];exact hk _ w' [g] ⟨h3.own,rfl⟩ ⟨h3.gr.os,h3.gr.tape,h3.gr.output,h3.gr.size,λ k hk hn=> h3.gr.block k hk (λ e=> hn (by cases e;simp)),λ k hk=> .inl hk⟩
theorem sortR_lt {c:Nat} {its:List Ri} (ha:its.Pairwise λ a b=> a.id < b.id):(riL (sortR c its)).Pairwise (rngLt c)/\∀x,x∈sortR c its↔x∈its:=by
 obtain ⟨h1,h2⟩:=sortR_ok c its;generalize sortR c its=Z at *;refine ⟨?_,λ x=> ⟨λ h=> h2.mem (cmpC_ord c) h,λ h=> h2.symm.mem (cmpC_ord c) h⟩⟩;unfold riL;rw [List.pairwise_map,List.pairwise_iff_getElem];intro i j hi hj hij;have h3:=(List.pairwise_iff_getElem.1 h1) i j hi hj hij;by_cases h4:cc (cmpC c) Z[i] Z[j] < 0
 · exact .inl h4
 · have h5:cc (cmpC c) Z[i] Z[j]=0:=by omega
   refine .inr ⟨cmpV_zero.1 h5,?_⟩;have h6:=h2 Z[j];have h7:(Z.filter λ x=> cc (cmpC c) x Z[j]==0).Pairwise λ a b=> a.id < b.id:=by rw [<-h6];exact ha.sublist List.filter_sublist
   have h8:List.Sublist [Z[i],Z[j]] Z:=by
    have e:Z=Z.take (i+1)++Z.drop (i+1):=(List.take_append_drop _ _).symm;have m1:List.Sublist [Z[i]] (Z.take (i+1)):=List.singleton_sublist.2 (List.mem_take_iff_getElem.2 ⟨i,by omega,rfl⟩);have m2:List.Sublist [Z[j]] (Z.drop (i+1)):=List.singleton_sublist.2 (List.mem_drop_iff_getElem.2 ⟨j - (i+1),by omega,by congr 1;omega⟩);have:=m1.append m2
    rwa [<-e] at this
   have h9:=h8.filter λ x=> cc (cmpC c) x Z[j]==0;rw [List.filter_cons_of_pos (by simpa using h5),List.filter_cons_of_pos (by simp [(cmpC_ord c).self])] at h9;have h10:=h7.sublist h9;simpa using (List.pairwise_cons.1 h10).1 Z[j]
theorem range2s_calls {S cols:Nat} {I:List (List Int)} {L:LL} {next:Int} {s:Sto} (hok:s.Ok cols I L next) (b4 b5 b6 b7 b9 c:Nat) (low high:Vl) (hc:c < cols) (hlen:L.length+1 < 1099511627776) (hx:findIx s.ixs [(c:Int)]=none)
 (w0 w:World) (fp0:List Nat) (R:List Asn) (hS:St w0 fp0 (rgL b4 b9 b5 b6 b7 S++(stoL S s++(rgX b5 b6 b7 c low high++R))) w):
 Calls Tryz.prog 56 #[.pointer (some ⟨b4,0,none⟩), .pointer (some ⟨b5,0,none⟩), .pointer (some ⟨b6,0,none⟩), .pointer (some ⟨b9,0,none⟩)] w λ e w'=> ∃v,e=.returned v/\
  St w0 fp0 (rowA 114 2 v (sortR c (somL (rgP c low high) s.es)).length (riV (sortR c (somL (rgP c low high) s.es)))::(rgL b4 b9 b5 b6 b7 S++(stoL S s++(rgX b5 b6 b7 c low high++R)))) w':=by
 obtain ⟨_,hb4⟩:=hS.has 0 rfl;have d4:=(blk_get hb4).1 0;have d4l:=(blk_get hb4).2.2;obtain ⟨_,hb9⟩:=hS.has 1 rfl;have d9:=(blk_get hb9).1 0;have d9l:=(blk_get hb9).2.2;obtain ⟨_,hbS⟩:=hS.has 2 rfl;have e0:=(blk_get hbS).1 0;have e3:=(blk_get hbS).1 3;obtain ⟨_,hri⟩:=hS.has 4 rfl;have hix:=row_sl hri (ixV_len s.ixs);have hXS:St w0 fp0 (rgX b5 b6 b7 c low high++(rgL b4 b9 b5 b6 b7 S++(stoL S s++R))) w:=hS.perm (by classical refine List.perm_iff_count.2 λ a=> ?_;simp only [List.count_append];omega);obtain ⟨_,hb5⟩:=hXS.has 0 rfl;have d5:=(blk_get hb5).1 0;have d5l:=(blk_get hb5).2.2;simp only [List.getElem?_toArray,List.getElem?_cons_zero,List.getElem?_cons_succ] at d4 d9 d5 e0 e3;have hixs:∀x∈s.ixs,IntsX [] w x.cs x.cv:=by
  intro x hx;obtain ⟨f,hf⟩:=hS.hasM (A:=ixA x) (List.mem_append_right _ (List.mem_append_left _ (by unfold stoL;exact .tail _ (.tail _ (.tail _ (List.mem_append_right _ (List.mem_map.2 ⟨x,hx,rfl⟩)))))));obtain ⟨f1,f2,h1, -⟩:=(show Star w [slA 3 x.cv (x.cs.map intC),objA true 16 x.kh x.km x.kb] f from hf)
  exact intsX_of h1
 have HH:=Lib.hid (has_calls S s.cols c w e0);have hcd:decide (0<=(c:Int)/\(c:Int) < (s.cols:Int))=true:=by rw [hok.ecols];simp;omega
 rw [hcd] at HH;have HB0:Hid (Below w.heap.size w (w.alloc (.cells #[.int .i64 c] 3))):=(Below.refl _ _).alloc (Nat.le_refl _) _;have HF:=Lib.hid (sfind_calls S s.ixs s.iv [(c:Int)] (.slice (some ⟨w.heap.size,0,none⟩) 1 1) (w.alloc (.cells #[.int .i64 c] 3)) ((HB0.out.cell (p:=⟨S,3,none⟩) (World.block_lt_of_cell? w _ e3)).trans e3) (hix.mono HB0.out) (λ y hy=> (hixs y hy).mono HB0.out) (SlX.of_blk (X:=[]) (heap_alloc_new w _) (by simp) (by show 1<=maxLen;unfold maxLen;omega) rfl));rw [hx] at HF;have hesl:s.es.length=L.length:=by rw [<-hok.rows,reL,List.length_map]
 have HIT:Hid (∀x∈somL (rgP c low high) s.es,c < x.r.length):=λ x hx=> by
  obtain ⟨e,he, -,rfl⟩:=somL_row hx;have hm:(e.id,e.r)∈L:=by rw [<-hok.rows];exact List.mem_map.2 ⟨_,he,rfl⟩
  have:e.r.length=cols:=(hok.row _ hm).2.2.1;show c < e.r.length;omega
 have HRD:Hid (Rd w0 fp0 (rgL b4 b9 b5 b6 b7 S++(stoL S s++(rgX b5 b6 b7 c low high++R))) λ w=> w.cell? ⟨b5,0,none⟩=some (.int .i64 c)/\∀x∈somL (rgP c low high) s.es,ValsAt w x.r x.v):=λ M w h=> by have h1:St w0 fp0 (stoL S s++(rgX b5 b6 b7 c low high++(M++(rgL b4 b9 b5 b6 b7 S++R)))) w:=h.perm (by classical refine List.perm_iff_count.2 λ a=> ?_;simp only [List.count_append];omega);obtain ⟨_,h5⟩:=(h1.perm perm2).has 0 rfl;refine ⟨(blk_get h5).1 0,λ x hx=> ?_⟩;obtain ⟨e,he, -,rfl⟩:=somL_row hx;obtain ⟨f,hf⟩:=h1.star_of;rw [toRi_v (h1.slOf e he)];exact re_at hok hf he
 have HSL:Hid ((somL (rgP c low high) s.es).length<=1099511627776):=by show _<=_;have:=somL_len (rgP c low high) s.es;omega
 have HSO:Hid (∀W,St w0 fp0 (rgL b4 b9 b5 b6 b7 S++(stoL S s++(rgX b5 b6 b7 c low high++R))) W->Calls Tryz.prog 48 #[ptrV S,rgF b5 b6 b7] W λ e w'=> ∃v,e=.returned v/\St w0 fp0 (rowA 114 2 v (somL (rgP c low high) s.es).length (riV (somL (rgP c low high) s.es))::(rgL b4 b9 b5 b6 b7 S++(stoL S s++(rgX b5 b6 b7 c low high++R)))) w'):=λ W h=> by
  have h1:St w0 fp0 (stoL S s++(rgX b5 b6 b7 c low high++(rgL b4 b9 b5 b6 b7 S++R))) W:=h.perm (by classical refine List.perm_iff_count.2 λ a=> ?_;simp only [List.count_append];omega);refine (some_calls 55 _ (rgP c low high) S s (rgX b5 b6 b7 c low high) (enters_own Tryz.func55 (by kernel_rfl) rfl) (by omega) (rg_isc hok b5 b6 b7 c low high hc) w0 W fp0 _ h1).mono ?_;rintro e w' ⟨v,rfl,h2⟩;refine ⟨v,rfl,h2.perm ?_⟩
  classical refine List.perm_iff_count.2 λ a=> ?_;simp only [List.count_append,List.count_cons];omega
 have HS:=Lib.hid hS;generalize somL (rgP c low high) s.es=its at *;obtain ⟨A,hA⟩:∃A,rgL b4 b9 b5 b6 b7 S++(stoL S s++(rgX b5 b6 b7 c low high++R))=A:=⟨_,rfl⟩
 rw [hA] at HS HRD HSO ⊢;clear hS hok hx hlen hb4 hb9 hbS hri hix hXS hb5 hixs hcd e0 e3 hc hesl hA;unfold ptrV at d4 HF HH HSO;unfold rgF at d9 HSO;unfold findV at HF;go_enter Tryz.func56,Tryz.ntmps56;go_wp2_with fail;(with_reducible refine HH.out.mono ?_);rintro e w1 ⟨rfl,rfl⟩;clear HH;go_wp2_with fail;(with_reducible refine HF.out.mono ?_);rintro e w2 ⟨rfl,hb1⟩;have hb2:=HB0.out.trans (hb1.mono HB0.out.size);have HS2:=Lib.hid (HS.out.mono hb2);have c9:=(hb2.cell (p:=⟨b9,0,none⟩) d9l).trans d9;have l9:=World.block_lt_of_cell? w2 _ c9;have c4:=(hb2.cell (p:=⟨b4,0,none⟩) d4l).trans d4;have l4:=World.block_lt_of_cell? w2 _ c4;clear HF hb1 hb2 HS d4 d4l d9 d9l d5 d5l HB0;rw [show (none:Option Ix).isSome=false from rfl];go_upto_region 4 with (fail)
 have HS3:=Lib.hid ((HS2.out.newblk 97 #[.slice none 0 0, .pointer none]).drop);have hb3:Below w2.heap.size w2 (w2.alloc (.cells #[.slice none 0 0, .pointer none] 97)):=(Below.refl _ _).alloc (Nat.le_refl _) _;replace c9:=(hb3.cell (p:=⟨b9,0,none⟩) l9).trans c9;replace c4:=(hb3.cell (p:=⟨b4,0,none⟩) l4).trans c4;generalize hW3:w2.alloc _=W3 at *;clear hb3 hW3 HS2 l4 l9;have l9:=World.block_lt_of_cell? W3 _ c9;have l4:=World.block_lt_of_cell? W3 _ c4;have HO:=Lib.hid (HSO.out W3 HS3.out);clear HSO HS3;go_wp2_with fail;(with_reducible refine HO.out.mono ?_);rintro e W4 ⟨v,rfl,h4⟩;have HT:=Lib.hid (sort_st c b5 its v HSL.out w0 W4 fp0 A HRD.out HIT.out h4);obtain ⟨va,vc,rfl⟩:∃a c,v=.slice a its.length c:=by obtain ⟨_,hr⟩:=h4.has 0 rfl;obtain ⟨a,c,e, -⟩:=row_shape hr;exact ⟨a,c,e⟩
 clear HO h4 HRD HIT;generalize its.length=n at *;clear c9 c4 l9 l4;go_wp2_with fail;(with_reducible refine HT.out.mono ?_);rintro e W5 ⟨rfl,h5⟩;have hl:(sortR c its).length=n:=by obtain ⟨_,hr⟩:=h5.has 0 rfl;have:=hr.1.1;rw [riV_len] at this;omega
 have H5:Hid (St w0 fp0 (rowA 114 2 (.slice va n vc) (sortR c its).length (riV (sortR c its))::A) W5):=by show St _ _ _ _;rw [hl];exact h5
 clear h5 HT hl;go_wp2;go_ret;exact ⟨_,rfl,H5.out⟩
theorem rgs_seq {S cols:Nat} {I:List (List Int)} {L:LL} {next:Int} {s:Sto} (hok:s.Ok cols I L next) (hcm:cols<=1000000) (b4 b5 b6 b7 b9 cb c:Nat) (low high:Vl) (hc:c < cols) (hlen:L.length+1 < 1099511627776) (hx:findIx s.ixs [(c:Int)]=none) (n:Nat):
 SeqG n Tryz.prog 84 #[.pointer (some ⟨cb,0,none⟩)] 2 itG (λ W=> ∀x∈sortR c (somL (rgP c low high) s.es),ValsAt W x.r x.v) (sortR c (somL (rgP c low high) s.es)) (blkA cb 109 #[rgCol b4 b5 b6 b9]::(rgL b4 b9 b5 b6 b7 S++(stoL S s++rgX b5 b6 b7 c low high))):=
 have hes:s.es.length=L.length:=by rw [<-hok.rows,reL,List.length_map]
 each1_seq 56 _ cb _ _ (enters_own Tryz.func56 (by kernel_rfl) rfl) (by
  rw [sortR,List.length_mergeSort];exact Nat.lt_of_le_of_lt (somL_len _ _) (by omega)) (λ y hy=> by
  obtain ⟨e,he, -,rfl⟩:=somL_row (List.mem_mergeSort.1 hy);have hm:(e.id,e.r)∈L:=by rw [<-hok.rows];exact List.mem_map.2 ⟨_,he,rfl⟩
  have:e.r.length=cols:=(hok.row _ hm).2.2.1;show e.r.length < _;omega) (λ w0 fp0 R w hs=> by
  have h1:St w0 fp0 (rgL b4 b9 b5 b6 b7 S++(stoL S s++(rgX b5 b6 b7 c low high++(blkA cb 109 #[rgCol b4 b5 b6 b9]::R)))) w:=hs.perm (by
   show List.Perm (blkA cb 109 #[rgCol b4 b5 b6 b9]::_) _
   classical refine List.perm_iff_count.2 λ a=> ?_;simp only [List.count_append,List.count_cons];omega)
  refine (range2s_calls hok b4 b5 b6 b7 b9 c low high hc hlen hx w0 w fp0 _ h1).mono ?_;rintro e w' ⟨v,rfl,h2⟩;refine ⟨v,rfl,h2.perm ?_⟩;show List.Perm _ (_::blkA cb 109 #[rgCol b4 b5 b6 b9]::_)
  classical refine List.perm_iff_count.2 λ a=> ?_;simp only [List.count_append,List.count_cons];omega) n
theorem rngs_eq {cols:Nat} {I:List (List Int)} {L:LL} {next:Int} {s:Sto} (hok:s.Ok cols I L next) {c:Nat} {low high:Vl}:riL (sortR c (somL (rgP c low high) s.es))=rngL c low high L:=by
 obtain ⟨r1,r2⟩:=rngL_ok (c:=c) (low:=low) (high:=high) hok.asc;have ha:(somL (rgP c low high) s.es).Pairwise λ a b=> a.id < b.id:=by have h1:=reL_asc (es:=s.es) (by rw [hok.rows];exact hok.asc);unfold somL;rw [List.pairwise_map];exact (h1.sublist List.filter_sublist).imp λ h=> h
 obtain ⟨s1,s2⟩:=sortR_lt (c:=c) ha;refine sorted_ext (rngLt_irrefl c) (rngLt_asymm c) s1 r1 λ y=> ?_;rw [r2];have h3:=riL_som (rgP c low high) (λ x=> rgV (colV x.2 c) low high) (λ _=> rfl) s.es;rw [hok.rows] at h3;constructor
 · intro h
   obtain ⟨x,hx,rfl⟩:=List.mem_map.1 h;have h4:(x.id,x.r)∈riL (somL (rgP c low high) s.es):=List.mem_map.2 ⟨x,(s2 x).1 hx,rfl⟩;rw [h3,List.mem_filter] at h4;exact h4
 · intro h
   have h4:y∈riL (somL (rgP c low high) s.es):=by rw [h3,List.mem_filter];exact h
   obtain ⟨x,hx,rfl⟩:=List.mem_map.1 h4;exact List.mem_map.2 ⟨x,(s2 x).2 hx,rfl⟩
theorem Range_it (S cols:Nat) (I:List (List Int)) (hcm:cols<=1000000) (c:Nat) (hc:c < cols) (low high:Vl) (hlv:okV low=true) (hli:I64 low.int) (w0 w:World) (fp0:List Nat) (R:List Asn) (hS:St w0 fp0 R w):
 Calls Tryz.prog 17 #[ptrV S, .int .i64 c,low.val,high.val] w λ e w'=> ∃v,e=.returned v/\St w0 fp0 (iterA v S cols I (rngL c low high)::R) w':=by
 by_cases hI:[(c:Int)]∈I
 · exact Range_it1 S cols I hcm c hc hI low high hlv hli w0 w fp0 R hS
 · refine (Range_store S c low high w0 w fp0 R hS).mono ?_
   rintro e w' ⟨cb,b4,b5,b6,b7,b9,rfl,h⟩;have h1:St w0 fp0 ((blkA cb 109 #[rgCol b4 b5 b6 b9]::(rgL b4 b9 b5 b6 b7 S++rgX b5 b6 b7 c low high))++R) w':=h.perm (by classical refine List.perm_iff_count.2 λ a=> ?_;simp only [List.cons_append,List.count_append,List.count_cons];omega);refine ⟨_,rfl,St.iter.2 ⟨_,⟨84,_,rfl,enters_own Tryz.func84 (by kernel_rfl) rfl,λ s L next hok hl=> ?_⟩,h1⟩⟩;have hx:findIx s.ixs [(c:Int)]=none:=by refine List.find?_eq_none.2 λ x hx h=> hI ?_;rw [<-hok.eixs,<-of_decide_eq_true h];exact List.mem_map.2 ⟨x,hx,rfl⟩
   have hes:s.es.length=L.length:=by rw [<-hok.rows,reL,List.length_map]
   refine ⟨_,rngs_eq hok (c:=c) (low:=low) (high:=high),λ y hy=> ?_,?_,λ n=> (rgs_seq (S:=S) hok hcm b4 b5 b6 b7 b9 cb c low high hc hl hx n).perm ?_⟩
   · obtain ⟨e,he, -,rfl⟩:=somL_row (List.mem_mergeSort.1 hy)
     exact ⟨e,he,rfl⟩
   · rw [sortR,List.length_mergeSort,<-hes]
     exact somL_len _ _
   · classical
     refine List.perm_iff_count.2 λ a=> ?_;simp only [List.cons_append,List.count_append,List.count_cons];omega
def txN:ByteArray:=⟨#[]⟩
theorem same_res2 {w0 w:World} {fp0:List Nat} {R:List Asn} {u v:Value} {L:LL} (h:St w0 fp0 (resA u L::resA v L::R) w) (hx:∀x∈L,∀y∈x.2,y.text.size<=maxLen):
 Calls Tryz.prog 13 #[v,u] w λ e w'=> e=.returned (.bool true)/\Below w.heap.size w w':=by
 obtain ⟨o1,h1,r1⟩:=res_rix h hx;obtain ⟨o2,h2,r2⟩:=res_rix (h.perm (List.Perm.swap _ _ _)) hx;have:=RSameI_calls o2 o1 v u w r2 r1
 rwa [h1,h2,decide_eq_true rfl] at this
theorem tx_take {L:LL} (n:Int) (q:LL) (hq:∀x∈q,x∈L) (h:∀x∈L,∀y∈x.2,y.text.size<=maxLen):∀x∈takeL n q,∀y∈x.2,y.text.size<=maxLen:=λ x hx=> by
 unfold takeL at hx;split at hx
 · cases hx
 · exact h x (hq x (List.mem_of_mem_take hx))
theorem indexes_calls (u:Nat) (hu:u < 256) (ka fa:Option Addr) (kn kc fn fc:Nat) (K F:List Int) (u':Nat) (_hu':u' < 256) (ka' fa':Option Addr) (kn' kc' fn' fc':Nat) (K' F':List Int) (l:List Opr) (v:Value) (W:World)
 (hk:IntsX [] W K (.slice ka kn kc)) (hf:IntsX [] W F (.slice fa fn fc)) (hk':IntsX [] W K' (.slice ka' kn' kc')) (hf':IntsX [] W F' (.slice fa' fn' fc')) (hl:OpsX W l v) (ho:OpsOk l):
 Calls Tryz.prog 6 #[.agg #[.int .u8 u, .slice ka kn kc, .slice fa fn fc], .agg #[.int .u8 u', .slice ka' kn' kc', .slice fa' fn' fc'],v] W λ e W'=> e=.returned (.bool true)/\Below W.heap.size W W':=by
 have hS:=((St.start (w:=W) (L:=[]) (fp:=[]) rfl).newblk 24 #[.int .u8 u, .slice ka kn kc, .slice fa fn fc]).newblk 24 #[.int .u8 u', .slice ka' kn' kc', .slice fa' fn' fc'];simp only [World.size_alloc] at hS;have H0:=Lib.hid hS;have HK:=Lib.hid (And.intro hk (And.intro hf (And.intro hk' hf')));have HL:=Lib.hid hl;have HO:=Lib.hid ho;have HKL:=Lib.hid (show kn<=maxLen/\fn<=maxLen/\kn'<=maxLen/\fn'<=maxLen from by have:=SlX.len hk;have:=SlX.len hf;have:=SlX.len hk';have:=SlX.len hf';omega);clear hk hf hk' hf' hl ho hS;go_enter Tryz.func6,Tryz.ntmps6;go_wp2_with fail;generalize hW:(W.alloc _).alloc _=w1 at *;obtain ⟨b3,hb3⟩:∃b3,W.heap.size=b3:=⟨_,rfl⟩
 rw [hb3] at H0 ⊢;obtain ⟨b4,hb4⟩:∃b4,b3+1=b4:=⟨_,rfl⟩
 rw [hb4] at H0 ⊢;have HB:=Lib.hid hb3;clear hW hb3 hb4;(with_reducible refine (awake_calls w1).mono ?_);rintro e w2 ⟨rfl,hb⟩;replace H0:=Lib.hid (H0.out.mono hb);clear hb;obtain ⟨q0,q1,q2,r0,r1,r2,ql⟩:=cells3 H0.out 1 rfl;go_wp2_with fail;have HQ:=Lib.hid (fair_calls u ka fa kn kc fn fc l v 40 w2 HKL.out.1 HKL.out.2.1 (HL.out.mono (st_below H0.out)));obtain ⟨q,hq⟩:∃q,fairB kn fn l 40=q:=⟨_,rfl⟩
 rw [hq] at HQ;(with_reducible refine HQ.out.mono ?_);rintro e w3 ⟨rfl,hb⟩;replace H0:=Lib.hid (H0.out.mono hb);clear hb HQ q0 q1 q2 r0 r1 r2 ql;cases q with
 | false=>
  have HE:=Lib.hid (st_below H0.out);clear H0 hq;go_wp2;go_ret;exact ⟨rfl,HB.out ▸ HE.out⟩
 | true=>
  obtain ⟨q0,q1,q2,r0,r1,r2,ql⟩:=cells3 H0.out 0 rfl;have HFQ:=Lib.hid hq;clear hq;go_wp2_with fail;have HQ:=Lib.hid (fair_calls u' ka' fa' kn' kc' fn' fc' l v 40 w3 HKL.out.2.2.1 HKL.out.2.2.2 (HL.out.mono (st_below H0.out)));obtain ⟨q,hq⟩:∃q,fairB kn' fn' l 40=q:=⟨_,rfl⟩
  rw [hq] at HQ;(with_reducible refine HQ.out.mono ?_);rintro e w4 ⟨rfl,hb⟩;replace H0:=Lib.hid (H0.out.mono hb);clear hb HQ q0 q1 q2 r0 r1 r2 ql;cases q with
  | false=>
   have HE:=Lib.hid (st_below H0.out);clear H0 hq HFQ;go_wp2;go_ret;exact ⟨rfl,HB.out ▸ HE.out⟩
  | true=>
   have HGQ:=Lib.hid hq;clear hq;obtain ⟨q0,q1,q2,r0,r1,r2,ql⟩:=cells3 H0.out 0 rfl;obtain ⟨p0,p1,p2,s0,s1,s2,pl⟩:=cells3 H0.out 1 rfl;have H1:Hid (St W [] [blkA b4 24 #[.int .u8 u, .slice ka' kn' kc', .slice fa' fn' fc'],blkA b3 24 #[.int .u8 u, .slice ka kn kc, .slice fa fn fc]] (w4.setCell ⟨b4,0,none⟩ (.int .u8 u))):=H0.out.setB 0 (by simp) (.int .u8 u);clear H0;go_upto_region 6 with (fail)
   generalize hW5:w4.setCell _ _=w5 at *;clear hW5 q0 q1 q2 r0 r1 r2 ql p0 p1 p2 s0 s1 s2 pl;have HOP:=Lib.hid (HO.out.play HFQ.out);have hfo:=fair_ok HFQ.out;have hgo:=fair_ok HGQ.out;have HR:Hid (∀{Q:World->Prop} (R:List Asn),(∀w',Below W.heap.size W w'->Q w')->Rd W [] R Q):=λ R h L w hs=> h w (st_below hs);have HSZ:Hid (K.length<=6/\F.length<=6/\K'.length<=6/\F'.length<=6/\l.length<=40):=by have h1:=SlX.len HK.out.1;have h2:=SlX.len HK.out.2.1;have h3:=SlX.len HK.out.2.2.1;have h4:=SlX.len HK.out.2.2.2;show _/\_;omega
   have HPA:=Lib.hid (playD_calls u hu ka fa kn kc fn fc K F HSZ.out.1 HSZ.out.2.1 l v W w5 [] _ (HR.out _ λ w' hb=> HK.out.1.mono hb) (HR.out _ λ w' hb=> HK.out.2.1.mono hb) (HR.out _ λ w' hb=> HL.out.mono hb) (by have:=HSZ.out.2.2.2.2;omega) HOP.out H1.out);have HPB:Hid (∀w R,St W [] R w->_):=λ w R h=> playD_calls u hu ka' fa' kn' kc' fn' fc' K' F' HSZ.out.2.2.1 HSZ.out.2.2.2.1 l v W w [] R (HR.out _ λ w' hb=> HK.out.2.2.1.mono hb) (HR.out _ λ w' hb=> HK.out.2.2.2.mono hb) (HR.out _ λ w' hb=> HL.out.mono hb) (by have:=HSZ.out.2.2.2.2;omega) HOP.out h;obtain ⟨n,hn⟩:∃n,colsN u=n:=⟨_,rfl⟩
   have HN:=Lib.hid (show colsN u<=1000000/\0 < colsN u by unfold colsN;omega);rw [hn] at HPA HPB HN;obtain ⟨q0,q1,q2,r0,r1,r2,ql⟩:=cells3 H1.out 1 rfl;clear hfo hgo HFQ HGQ HO HOP HR HKL HK H1 hn;go_wp2_with fail;(with_reducible refine HPA.out.mono ?_);rintro e w6 ⟨Sa,Ia,nexta,lva,ma,rfl,hma, -, -,hpa,h6⟩;clear HPA q0 q1 q2 r0 r1 r2 ql;obtain ⟨la,lc,rfl⟩:∃a c,lva=.slice a ma.length c:=by obtain ⟨_,hr⟩:=h6.has 1 rfl;exact (riA_sl hr).shape
   have H6:Hid (St W [] [storeA Sa n Ia (riL ma) nexta,blkA b4 24 #[.int .u8 u, .slice ka' kn' kc', .slice fa' fn' fc']] w6):=(St_re (L:=[_,_,_,_]) h6 [1,3,0,2] [] (by kernel_rfl)).drop.drop;clear h6;unfold rsV ptrV;have H7:=Lib.hid ((H6.out.newblk 37 #[.int .i64 n, .slice la ma.length lc, .int .i64 nexta]));have HLA:=Lib.hid (show ma.length<=40/\(riL ma,nexta)=playD n l l.length from ⟨by have:=HSZ.out.2.2.2.2;omega,hpa⟩);obtain ⟨mn,hmn⟩:∃mn,ma.length=mn:=⟨_,rfl⟩
   rw [hmn] at H7 HLA ⊢;have HMN:=Lib.hid hmn;clear H6 hma hpa hmn;go_upto_region 7 with (fail)
   generalize hW7:w6.alloc _=w7 at *;obtain ⟨b8,hb8⟩:∃b8,w6.heap.size=b8:=⟨_,rfl⟩
   rw [hb8] at H7 ⊢;clear hW7 hb8;have HP:=Lib.hid (HPB.out w7 _ H7.out);obtain ⟨q0,q1,q2,r0,r1,r2,ql⟩:=cells3 H7.out 2 rfl;clear HPB H7;go_wp2_with fail;(with_reducible refine HP.out.mono ?_);rintro e w8 ⟨Sb,Ib,nextb,lvb,mb,rfl,hmb, -, -,hpb,h8⟩;clear HP q0 q1 q2 r0 r1 r2 ql;obtain ⟨lb,lcb,rfl⟩:∃a c,lvb=.slice a mb.length c:=by obtain ⟨_,hr⟩:=h8.has 1 rfl;exact (riA_sl hr).shape
   have hpab:=HLA.out.2.trans hpb.symm;have hLL:riL ma=riL mb:=congrArg Prod.fst hpab;have hnn:nexta=nextb:=congrArg Prod.snd hpab;subst hnn;rw [<-hLL] at h8;have hLm:(riL ma).length<=40:=by rw [riL_len,HMN.out];exact HLA.out.1
   obtain ⟨L,hL⟩:∃L,riL ma=L:=⟨_,rfl⟩
   rw [hL] at h8 hLm;have hS8:St W [] [storeA Sb n Ib L nexta,storeA Sa n Ia L nexta,blkA b8 37 #[.int .i64 n, .slice la mn lc, .int .i64 nexta]] w8:=(St_re (L:=[_,_,_,_,_]) h8 [1,4,0,3,2] [] (by kernel_rfl)).drop.drop;have HTX:=Lib.hid (sto_text hS8);have HLN:=Lib.hid hLm;unfold rsV ptrV;generalize mb.length=mbn at *;have H8:=Lib.hid (hS8.newblk 37 #[.int .i64 n, .slice lb mbn lcb, .int .i64 nexta]);have HRG:Hid (AscI L):=by obtain ⟨s,hok, -⟩:=hS8.openS;exact hok.asc
   clear hmb hpb hpab hLL h8 hLm hL hS8 HLA HMN;go_upto_region 8 with (fail)
   generalize hW8:w8.alloc _=w9 at *;clear hW8;have H9:Hid (St W [] [storeA Sb n Ib L nexta,storeA Sa n Ia L nexta,blkA b8 37 #[.int .i64 n, .slice la mn lc, .int .i64 nexta]] w9):=H8.out.drop;clear H8;have HI:=Lib.hid (All_it Sa n Ia HN.out.1 W w9 [] _ H9.out);unfold ptrV at HI;go_wp2_with fail;(with_reducible refine HI.out.mono ?_);rintro e w10 ⟨va,rfl,h10⟩;have HT:=Lib.hid (taken_it HN.out.1 (by have:=HLN.out;omega) 99 W w10 [] _ (St_re (L:=[_,_,_,_]) h10 [0,2,1,3] [] (by kernel_rfl)));clear HI h10 H9;go_wp2_with fail;(with_reducible refine HT.out.mono ?_);rintro e w11 ⟨ua,rfl,h11⟩;have H11:Hid (St W [] [storeA Sb n Ib L nexta,resA ua (takeL 99 L),storeA Sa n Ia L nexta,blkA b8 37 #[.int .i64 n, .slice la mn lc, .int .i64 nexta]] w11):=(St_re (L:=[_,_,_,_,_]) h11 [1,3,0,2,4] [] (by kernel_rfl)).drop;clear HT h11;have HI:=Lib.hid (All_it Sb n Ib HN.out.1 W w11 [] _ H11.out);unfold ptrV at HI;go_wp2_with fail;(with_reducible refine HI.out.mono ?_);rintro e w12 ⟨vb,rfl,h12⟩;have HT:=Lib.hid (taken_it HN.out.1 (by have:=HLN.out;omega) 99 W w12 [] _ h12);clear HI h12 H11;go_wp2_with fail;(with_reducible refine HT.out.mono ?_);rintro e w13 ⟨ub,rfl,h13⟩;have h14:St W [] [resA ub (takeL 99 L),resA ua (takeL 99 L),storeA Sb n Ib L nexta,storeA Sa n Ia L nexta,blkA b8 37 #[.int .i64 n, .slice la mn lc, .int .i64 nexta]] w13:=(St_re (L:=[_,_,_,_,_,_]) h13 [1,0,3,2,4,5] [] (by kernel_rfl)).drop;have HX:=Lib.hid (same_res2 h14 (tx_take 99 L (λ _ h=> h) HTX.out));have H14:=Lib.hid h14.drop.drop;clear HT h13 h14;go_wp2_with fail;(with_reducible refine HX.out.mono ?_);rintro e w14 ⟨rfl,hb⟩;replace H14:=Lib.hid (H14.out.mono hb);clear hb HX;obtain ⟨q0,q1,q2,r0,r1,r2,ql⟩:=cells3 H14.out 2 rfl;have H15:Hid (St W [] [storeA Sb n Ib L nexta,storeA Sa n Ia L nexta] w14):=(St_re (L:=[_,_,_]) H14.out [2,0,1] [] (by kernel_rfl)).drop;clear H14;go_upto_region 11 with (fail)
   clear q0 q1 q2 r0 r1 r2 ql;go_loopg [61] n (λ g z wr=> ∃k:Nat,z=.int .i64 k/\g+k=n/\Hid (St W [] [storeA Sb n Ib L nexta,storeA Sa n Ia L nexta] wr))
   case atStart=> exact ⟨0,rfl,rfl,H15⟩
   case round=>
    clear H15;obtain ⟨k,rfl,hgk,Hs⟩:=hrel;by_cases hk:k < n
    · have hkn:(k:Int) < n:=by omega
      have Hgk:=Lib.hid hgk;clear hgk;have hz:okV ⟨0,0,txN⟩=true:=by kernel_rfl
      have hz2:I64 (⟨0,0,txN⟩:Vl).int:=by unfold I64;decide
      have HI:=Lib.hid (Range_it Sa n Ia HN.out.1 k hk ⟨0,0,txN⟩ ⟨0,0,txN⟩ hz hz2 W wr [] _ Hs.out);unfold ptrV Vl.val at HI;simp only at HI;go_wp2_with fail;refine HI.out.mono ?_;rintro e w10 ⟨va,rfl,h10⟩;have HT:=Lib.hid (taken_it HN.out.1 (by have:=HLN.out;omega) 99 W w10 [] _ (St_re (L:=[_,_,_]) h10 [0,2,1] [] (by kernel_rfl)));clear HI h10 Hs;go_wp2_with fail;(with_reducible refine HT.out.mono ?_);rintro e w11 ⟨ua,rfl,h11⟩;obtain ⟨q,hq⟩:∃q,rngL k ⟨0,0,txN⟩ ⟨0,0,txN⟩ L=q:=⟨_,rfl⟩
      have HQM:Hid (∀x∈q,x∈L):=λ x hx=> ((rngL_ok HRG.out).2 x).1 (by rw [hq];exact hx) |>.1
      rw [hq] at h11;have H11:Hid (St W [] [storeA Sb n Ib L nexta,resA ua (takeL 99 q),storeA Sa n Ia L nexta] w11):=(St_re (L:=[_,_,_,_]) h11 [1,3,0,2] [] (by kernel_rfl)).drop;clear HT h11;have HI:=Lib.hid (Range_it Sb n Ib HN.out.1 k hk ⟨0,0,txN⟩ ⟨0,0,txN⟩ hz hz2 W w11 [] _ H11.out);unfold ptrV Vl.val at HI;simp only at HI;go_wp2_with fail;refine HI.out.mono ?_;rintro e w12 ⟨vb,rfl,h12⟩;have HT:=Lib.hid (taken_it HN.out.1 (by have:=HLN.out;omega) 99 W w12 [] _ h12);rw [hq] at HT;clear HI h12 H11 hq;go_wp2_with fail;(with_reducible refine HT.out.mono ?_);rintro e w13 ⟨ub,rfl,h13⟩;have h14:St W [] [resA ub (takeL 99 q),resA ua (takeL 99 q),storeA Sb n Ib L nexta,storeA Sa n Ia L nexta] w13:=(St_re (L:=[_,_,_,_,_]) h13 [1,0,3,2,4] [] (by kernel_rfl)).drop;have HX:=Lib.hid (same_res2 h14 (tx_take 99 q HQM.out HTX.out));have H14:=Lib.hid h14.drop.drop;clear HT h13 h14;go_wp2_with fail;(with_reducible refine HX.out.mono ?_);rintro e w14 ⟨rfl,hb⟩;replace H14:=Lib.hid (H14.out.mono hb);clear hb HX hz hz2;have hn9:=HN.out.1;go_wp2;go_roundg (gk - 1)
      case rel=> exact ⟨k+1,by go_num,by have:=Hgk.out;omega,H14⟩
      case measure=> have:=Hgk.out;omega
    · obtain rfl:k=n:=by omega
      have HE:=Lib.hid (st_below Hs.out);clear Hs hgk hk;go_wp2;go_ret;exact ⟨rfl,HB.out ▸ HE.out⟩
end
end Go.Proofs.YtnefkkidfhmggaaGreat
