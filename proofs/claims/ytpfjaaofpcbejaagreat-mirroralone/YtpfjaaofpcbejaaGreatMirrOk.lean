/-
 Mirr: by a program of the bench (seat.py).
-/
import Derived.Test.YtpfjaaofpcbejaaGreatMirrHand
import Derived.Test.YtpfjaaofpcbejaaGreatMirrRaw
namespace Go.Proofs.YtpfjaaofpcbejaaGreat
open Go.Sx Go
theorem ok90:FOk Tryz.prog 90 S90:=afun_ok (E:=E90) (fn:=Tryz.f90) (tabOk.opt { flats:=[(93,L93)],owns:=[87],frzs:=[89,90,91] }) (GOk.look (l:=[]) trivial) Tryz.checked.mixed Tryz.func90 (by kernel_rfl) (by kernel_rfl) (by kernel_rfl) (by kernel_rfl) (by kernel_rfl) (by kernel_rfl) (by kernel_rfl)
 fun x y h=>(raw90_eq x).trans h
theorem ok59:FOk Tryz.prog 59 S59:=afun_ok (E:=E59) (fn:=Tryz.f59) (tabOk.opt { flats:=[(93,L93)],owns:=[87],frzs:=[89,90,91] }) (GOk.look (l:=[(90,[S90])]) ⟨⟨ok90,trivial⟩,trivial⟩) Tryz.checked.mixed Tryz.func59 (by kernel_rfl) (by kernel_rfl) (by kernel_rfl) (by kernel_rfl) (by kernel_rfl) (by kernel_rfl) (by kernel_rfl)
 fun x y h=>(raw59_eq x).trans h
theorem ok40:FOk Tryz.prog 40 S40:=afun_ok (E:=E40) (fn:=Tryz.f40) (tabOk.opt { flats:=[(93,L93)],owns:=[87],frzs:=[89,90,91] }) (GOk.look (l:=[(59,[S59])]) ⟨⟨ok59,trivial⟩,trivial⟩) Tryz.checked.mixed Tryz.func40 (by kernel_rfl) (by kernel_rfl) (by kernel_rfl) (by kernel_rfl) (by kernel_rfl) (by kernel_rfl) (by kernel_rfl)
 fun x y h=>(raw40_eq x).trans h
theorem ok60:FOk Tryz.prog 60 S60:=afun_ok (E:=E60) (fn:=Tryz.f60) (tabOk.opt { flats:=[(93,L93)],owns:=[87],frzs:=[89,90,91] }) (GOk.look (l:=[]) trivial) Tryz.checked.mixed Tryz.func60 (by kernel_rfl) (by kernel_rfl) (by kernel_rfl) (by kernel_rfl) (by kernel_rfl) (by kernel_rfl) (by kernel_rfl)
 fun x y h=>(raw60_eq x).trans h
theorem ok41:FOk Tryz.prog 41 S41:=afun_ok (E:=E41) (fn:=Tryz.f41) (tabOk.opt { flats:=[(93,L93)],owns:=[87],frzs:=[89,90,91] }) (GOk.look (l:=[(60,[S60])]) ⟨⟨ok60,trivial⟩,trivial⟩) Tryz.checked.mixed Tryz.func41 (by kernel_rfl) (by kernel_rfl) (by kernel_rfl) (by kernel_rfl) (by kernel_rfl) (by kernel_rfl) (by kernel_rfl)
 fun x y h=>(raw41_eq x).trans h
theorem ok20:FOk Tryz.prog 20 S20:=afun_ok (E:=E20) (fn:=Tryz.f20) (tabOk.opt { flats:=[(93,L93)],owns:=[87],frzs:=[89,90,91] }) (GOk.look (l:=[(40,[S40]),(41,[S41])]) ⟨⟨ok40,trivial⟩,⟨ok41,trivial⟩,trivial⟩) Tryz.checked.mixed Tryz.func20 (by kernel_rfl) (by kernel_rfl) (by kernel_rfl) (by kernel_rfl) (by kernel_rfl) (by kernel_rfl) (by kernel_rfl)
 fun x y h=>(raw20_eq x).trans h
theorem ok21:FOk Tryz.prog 21 S21:=afun_ok (E:=E21) (fn:=Tryz.f21) (tabOk.opt { flats:=[(93,L93)],owns:=[87],frzs:=[89,90,91] }) (GOk.look (l:=[]) trivial) Tryz.checked.mixed Tryz.func21 (by kernel_rfl) (by kernel_rfl) (by kernel_rfl) (by kernel_rfl) (by kernel_rfl) (by kernel_rfl) (by kernel_rfl)
 fun x y h=>(raw21_eq x).trans h
theorem ok7:FOk Tryz.prog 7 S7:=afun_ok (E:=E7) (fn:=Tryz.f7) (tabOk.opt { flats:=[(93,L93)],owns:=[87],frzs:=[89,90,91] }) (GOk.look (l:=[(20,[S20]),(21,[S21])]) ⟨⟨ok20,trivial⟩,⟨ok21,trivial⟩,trivial⟩) Tryz.checked.mixed Tryz.func7 (by kernel_rfl) (by kernel_rfl) (by kernel_rfl) (by kernel_rfl) (by kernel_rfl) (by kernel_rfl) (by kernel_rfl)
 fun x y h=>(raw7_eq x).trans h
theorem ok22:FOk Tryz.prog 22 S22:=afun_ok (E:=E22) (fn:=Tryz.f22) (tabOk.opt { flats:=[(93,L93)],owns:=[87],frzs:=[89,90,91] }) (GOk.look (l:=[]) trivial) Tryz.checked.mixed Tryz.func22 (by kernel_rfl) (by kernel_rfl) (by kernel_rfl) (by kernel_rfl) (by kernel_rfl) (by kernel_rfl) (by kernel_rfl)
 fun x y h=>(raw22_eq x).trans h
theorem ok110:FOk Tryz.prog 110 S110:=afun_ok (E:=E110) (fn:=Tryz.f110) (tabOk.opt { flats:=[(93,L93)],owns:=[87],frzs:=[89,90,91] }) (GOk.look (l:=[]) trivial) Tryz.checked.mixed Tryz.func110 (by kernel_rfl) (by kernel_rfl) (by kernel_rfl) (by kernel_rfl) (by kernel_rfl) (by kernel_rfl) (by kernel_rfl)
 fun x y h=>(raw110_eq x).trans h
theorem ok111:FOk Tryz.prog 111 S111:=afun_ok (E:=E111) (fn:=Tryz.f111) (tabOk.opt { flats:=[(93,L93)],owns:=[87],frzs:=[89,90,91] }) (GOk.look (l:=[]) trivial) Tryz.checked.mixed Tryz.func111 (by kernel_rfl) (by kernel_rfl) (by kernel_rfl) (by kernel_rfl) (by kernel_rfl) (by kernel_rfl) (by kernel_rfl)
 fun x y h=>(raw111_eq x).trans h
theorem ok70:FOk Tryz.prog 70 S70:=afun_ok (E:=E70) (fn:=Tryz.f70) (tabOk.opt { flats:=[(93,L93)],owns:=[87],frzs:=[89,90,91] }) (GOk.look (l:=[(110,[S110]),(111,[S111])]) ⟨⟨ok110,trivial⟩,⟨ok111,trivial⟩,trivial⟩) Tryz.checked.mixed Tryz.func70 (by kernel_rfl) (by kernel_rfl) (by kernel_rfl) (by kernel_rfl) (by kernel_rfl) (by kernel_rfl) (by kernel_rfl)
 fun x y h=>(raw70_eq x).trans h
theorem ok73:FOk Tryz.prog 73 S73:=afun_ok (E:=E73) (fn:=Tryz.f73) (tabOk.opt { flats:=[(93,L93)],owns:=[87],frzs:=[89,90,91] }) (GOk.look (l:=[]) trivial) Tryz.checked.mixed Tryz.func73 (by kernel_rfl) (by kernel_rfl) (by kernel_rfl) (by kernel_rfl) (by kernel_rfl) (by kernel_rfl) (by kernel_rfl)
 fun x y h=>(raw73_eq x).trans h
theorem ok72:FOk Tryz.prog 72 S72:=afun_ok (E:=E72) (fn:=Tryz.f72) (tabOk.opt { flats:=[(93,L93)],owns:=[87],frzs:=[89,90,91] }) (GOk.look (l:=[(73,[S73])]) ⟨⟨ok73,trivial⟩,trivial⟩) Tryz.checked.mixed Tryz.func72 (by kernel_rfl) (by kernel_rfl) (by kernel_rfl) (by kernel_rfl) (by kernel_rfl) (by kernel_rfl) (by kernel_rfl)
 fun x y h=>(raw72_eq x).trans h
theorem ok114:FOk Tryz.prog 114 S114:=afun_ok (E:=E114) (fn:=Tryz.f114) (tabOk.opt { flats:=[(93,L93)],owns:=[87],frzs:=[89,90,91] }) (GOk.look (l:=[]) trivial) Tryz.checked.mixed Tryz.func114 (by kernel_rfl) (by kernel_rfl) (by kernel_rfl) (by kernel_rfl) (by kernel_rfl) (by kernel_rfl) (by kernel_rfl)
 fun x y h=>(raw114_eq x).trans h
theorem ok75:FOk Tryz.prog 75 S75:=afun_ok (E:=E75) (fn:=Tryz.f75) (tabOk.opt { flats:=[(93,L93)],owns:=[87],frzs:=[89,90,91] }) (GOk.look (l:=[(72,[S72]),(114,[S114])]) ⟨⟨ok72,trivial⟩,⟨ok114,trivial⟩,trivial⟩) Tryz.checked.mixed Tryz.func75 (by kernel_rfl) (by kernel_rfl) (by kernel_rfl) (by kernel_rfl) (by kernel_rfl) (by kernel_rfl) (by kernel_rfl)
 fun x y h=>(raw75_eq x).trans h
theorem ok76:FOk Tryz.prog 76 S76:=afun_ok (E:=E76) (fn:=Tryz.f76) (tabOk.opt { flats:=[(93,L93)],owns:=[87],frzs:=[89,90,91] }) (GOk.look (l:=[]) trivial) Tryz.checked.mixed Tryz.func76 (by kernel_rfl) (by kernel_rfl) (by kernel_rfl) (by kernel_rfl) (by kernel_rfl) (by kernel_rfl) (by kernel_rfl)
 fun x y h=>(raw76_eq x).trans h
theorem ok112:FOk Tryz.prog 112 S112:=afun_ok (E:=E112) (fn:=Tryz.f112) (tabOk.opt { flats:=[(93,L93)],owns:=[87],frzs:=[89,90,91] }) (GOk.look (l:=[]) trivial) Tryz.checked.mixed Tryz.func112 (by kernel_rfl) (by kernel_rfl) (by kernel_rfl) (by kernel_rfl) (by kernel_rfl) (by kernel_rfl) (by kernel_rfl)
 fun x y h=>(raw112_eq x).trans h
theorem ok113:FOk Tryz.prog 113 S113:=afun_ok (E:=E113) (fn:=Tryz.f113) (tabOk.opt { flats:=[(93,L93)],owns:=[87],frzs:=[89,90,91] }) (GOk.look (l:=[]) trivial) Tryz.checked.mixed Tryz.func113 (by kernel_rfl) (by kernel_rfl) (by kernel_rfl) (by kernel_rfl) (by kernel_rfl) (by kernel_rfl) (by kernel_rfl)
 fun x y h=>(raw113_eq x).trans h
theorem ok71:FOk Tryz.prog 71 S71:=afun_ok (E:=E71) (fn:=Tryz.f71) (tabOk.opt { flats:=[(93,L93)],owns:=[87],frzs:=[89,90,91] }) (GOk.look (l:=[(73,[S73]),(75,[S75]),(76,[S76]),(112,[S112]),(113,[S113])]) ⟨⟨ok73,trivial⟩,⟨ok75,trivial⟩,⟨ok76,trivial⟩,⟨ok112,trivial⟩,⟨ok113,trivial⟩,trivial⟩) Tryz.checked.mixed Tryz.func71 (by kernel_rfl) (by kernel_rfl) (by kernel_rfl) (by kernel_rfl) (by kernel_rfl) (by kernel_rfl) (by kernel_rfl)
 fun x y h=>(raw71_eq x).trans h
theorem ok74:FOk Tryz.prog 74 S74:=afun_ok (E:=E74) (fn:=Tryz.f74) (tabOk.opt { flats:=[(93,L93)],owns:=[87],frzs:=[89,90,91] }) (GOk.look (l:=[]) trivial) Tryz.checked.mixed Tryz.func74 (by kernel_rfl) (by kernel_rfl) (by kernel_rfl) (by kernel_rfl) (by kernel_rfl) (by kernel_rfl) (by kernel_rfl)
 fun x y h=>(raw74_eq x).trans h
theorem ok49:FOk Tryz.prog 49 S49:=afun_ok (E:=E49) (fn:=Tryz.f49) (tabOk.opt { flats:=[(93,L93)],owns:=[87],frzs:=[89,90,91] }) (GOk.look (l:=[(70,[S70]),(71,[S71]),(72,[S72]),(73,[S73]),(74,[S74]),(75,[S75]),(76,[S76])]) ⟨⟨ok70,trivial⟩,⟨ok71,trivial⟩,⟨ok72,trivial⟩,⟨ok73,trivial⟩,⟨ok74,trivial⟩,⟨ok75,trivial⟩,⟨ok76,trivial⟩,trivial⟩) Tryz.checked.mixed Tryz.func49 (by kernel_rfl) (by kernel_rfl) (by kernel_rfl) (by kernel_rfl) (by kernel_rfl) (by kernel_rfl) (by kernel_rfl)
 fun x y h=>(raw49_eq x).trans h
theorem ok42:FOk Tryz.prog 42 S42:=afun_ok (E:=E42) (fn:=Tryz.f42) (tabOk.opt { flats:=[(93,L93)],owns:=[87],frzs:=[89,90,91] }) (GOk.look (l:=[(49,[S49])]) ⟨⟨ok49,trivial⟩,trivial⟩) Tryz.checked.mixed Tryz.func42 (by kernel_rfl) (by kernel_rfl) (by kernel_rfl) (by kernel_rfl) (by kernel_rfl) (by kernel_rfl) (by kernel_rfl)
 fun x y h=>(raw42_eq x).trans h
theorem ok23:FOk Tryz.prog 23 S23:=afun_ok (E:=E23) (fn:=Tryz.f23) (tabOk.opt { flats:=[(93,L93)],owns:=[87],frzs:=[89,90,91] }) (GOk.look (l:=[(42,[S42])]) ⟨⟨ok42,trivial⟩,trivial⟩) Tryz.checked.mixed Tryz.func23 (by kernel_rfl) (by kernel_rfl) (by kernel_rfl) (by kernel_rfl) (by kernel_rfl) (by kernel_rfl) (by kernel_rfl)
 fun x y h=>(raw23_eq x).trans h
theorem ok61:FOk Tryz.prog 61 S61:=afun_ok (E:=E61) (fn:=Tryz.f61) (tabOk.opt { flats:=[(93,L93)],owns:=[87],frzs:=[89,90,91] }) (GOk.look (l:=[]) trivial) Tryz.checked.mixed Tryz.func61 (by kernel_rfl) (by kernel_rfl) (by kernel_rfl) (by kernel_rfl) (by kernel_rfl) (by kernel_rfl) (by kernel_rfl)
 fun x y h=>(raw61_eq x).trans h
theorem ok43:FOk Tryz.prog 43 S43:=afun_ok (E:=E43) (fn:=Tryz.f43) (tabOk.opt { flats:=[(93,L93)],owns:=[87],frzs:=[89,90,91] }) (GOk.look (l:=[(61,[S61])]) ⟨⟨ok61,trivial⟩,trivial⟩) Tryz.checked.mixed Tryz.func43 (by kernel_rfl) (by kernel_rfl) (by kernel_rfl) (by kernel_rfl) (by kernel_rfl) (by kernel_rfl) (by kernel_rfl)
 fun x y h=>(raw43_eq x).trans h
theorem ok44:FOk Tryz.prog 44 S44:=afun_ok (E:=E44) (fn:=Tryz.f44) (tabOk.opt { flats:=[(93,L93)],owns:=[87],frzs:=[89,90,91] }) (GOk.look (l:=[(61,[S61])]) ⟨⟨ok61,trivial⟩,trivial⟩) Tryz.checked.mixed Tryz.func44 (by kernel_rfl) (by kernel_rfl) (by kernel_rfl) (by kernel_rfl) (by kernel_rfl) (by kernel_rfl) (by kernel_rfl)
 fun x y h=>(raw44_eq x).trans h
theorem ok62:FOk Tryz.prog 62 S62:=afun_ok (E:=E62) (fn:=Tryz.f62) (tabOk.opt { flats:=[(93,L93)],owns:=[87],frzs:=[89,90,91] }) (GOk.look (l:=[]) trivial) Tryz.checked.mixed Tryz.func62 (by kernel_rfl) (by kernel_rfl) (by kernel_rfl) (by kernel_rfl) (by kernel_rfl) (by kernel_rfl) (by kernel_rfl)
 fun x y h=>(raw62_eq x).trans h
theorem ok45:FOk Tryz.prog 45 S45:=afun_ok (E:=E45) (fn:=Tryz.f45) (tabOk.opt { flats:=[(93,L93)],owns:=[87],frzs:=[89,90,91] }) (GOk.look (l:=[(61,[S61]),(62,[S62])]) ⟨⟨ok61,trivial⟩,⟨ok62,trivial⟩,trivial⟩) Tryz.checked.mixed Tryz.func45 (by kernel_rfl) (by kernel_rfl) (by kernel_rfl) (by kernel_rfl) (by kernel_rfl) (by kernel_rfl) (by kernel_rfl)
 fun x y h=>(raw45_eq x).trans h
theorem ok63:FOk Tryz.prog 63 S63:=afun_ok (E:=E63) (fn:=Tryz.f63) (tabOk.opt { flats:=[(93,L93)],owns:=[87],frzs:=[89,90,91] }) (GOk.look (l:=[(40,[S40])]) ⟨⟨ok40,trivial⟩,trivial⟩) Tryz.checked.mixed Tryz.func63 (by kernel_rfl) (by kernel_rfl) (by kernel_rfl) (by kernel_rfl) (by kernel_rfl) (by kernel_rfl) (by kernel_rfl)
 fun x y h=>(raw63_eq x).trans h
theorem ok46:FOk Tryz.prog 46 S46:=afun_ok (E:=E46) (fn:=Tryz.f46) (tabOk.opt { flats:=[(93,L93)],owns:=[87],frzs:=[89,90,91] }) (GOk.look (l:=[(61,[S61]),(62,[S62]),(63,[S63])]) ⟨⟨ok61,trivial⟩,⟨ok62,trivial⟩,⟨ok63,trivial⟩,trivial⟩) Tryz.checked.mixed Tryz.func46 (by kernel_rfl) (by kernel_rfl) (by kernel_rfl) (by kernel_rfl) (by kernel_rfl) (by kernel_rfl) (by kernel_rfl)
 fun x y h=>(raw46_eq x).trans h
theorem ok24:FOk Tryz.prog 24 S24:=afun_ok (E:=E24) (fn:=Tryz.f24) (tabOk.opt { flats:=[(93,L93)],owns:=[87],frzs:=[89,90,91] }) (GOk.look (l:=[(43,[S43]),(44,[S44]),(45,[S45]),(46,[S46])]) ⟨⟨ok43,trivial⟩,⟨ok44,trivial⟩,⟨ok45,trivial⟩,⟨ok46,trivial⟩,trivial⟩) Tryz.checked.mixed Tryz.func24 (by kernel_rfl) (by kernel_rfl) (by kernel_rfl) (by kernel_rfl) (by kernel_rfl) (by kernel_rfl) (by kernel_rfl)
 fun x y h=>(raw24_eq x).trans h
theorem ok47:FOk Tryz.prog 47 S47:=afun_ok (E:=E47) (fn:=Tryz.f47) (tabOk.opt { flats:=[(93,L93)],owns:=[87],frzs:=[89,90,91] }) (GOk.look (l:=[]) trivial) Tryz.checked.mixed Tryz.func47 (by kernel_rfl) (by kernel_rfl) (by kernel_rfl) (by kernel_rfl) (by kernel_rfl) (by kernel_rfl) (by kernel_rfl)
 fun x y h=>(raw47_eq x).trans h
theorem ok133:FOk Tryz.prog 133 S133:=afun_ok (E:=E133) (fn:=Tryz.f133) (tabOk.opt { flats:=[(93,L93)],owns:=[87],frzs:=[89,90,91] }) (GOk.look (l:=[]) trivial) Tryz.checked.mixed Tryz.func133 (by kernel_rfl) (by kernel_rfl) (by kernel_rfl) (by kernel_rfl) (by kernel_rfl) (by kernel_rfl) (by kernel_rfl)
 fun x y h=>(raw133_eq x).trans h
theorem ok168:FOk Tryz.prog 168 S168:=afun_ok (E:=E168) (fn:=Tryz.f168) (tabOk.opt { flats:=[(93,L93)],owns:=[87],frzs:=[89,90,91] }) (GOk.look (l:=[(133,[S133])]) ⟨⟨ok133,trivial⟩,trivial⟩) Tryz.checked.mixed Tryz.func168 (by kernel_rfl) (by kernel_rfl) (by kernel_rfl) (by kernel_rfl) (by kernel_rfl) (by kernel_rfl) (by kernel_rfl)
 fun x y h=>(raw168_eq x).trans h
theorem ok167a:FOk Tryz.prog 167 S167a:=afun_ok (E:=E167a) (fn:=Tryz.f167) (tabOk.opt { flats:=[(93,L93)],owns:=[87],frzs:=[89,90,91] }) (GOk.look (l:=[(168,[S168])]) ⟨⟨ok168,trivial⟩,trivial⟩) Tryz.checked.mixed Tryz.func167 (by kernel_rfl) (by kernel_rfl) (by kernel_rfl) (by kernel_rfl) (by kernel_rfl) (by kernel_rfl) (by kernel_rfl)
 fun x y h=>(raw167a_eq x).trans h
theorem ok132:FOk Tryz.prog 132 S132:=afun_ok (E:=E132) (fn:=Tryz.f132) (tabOk.opt { flats:=[(93,L93)],owns:=[87],frzs:=[89,90,91] }) (GOk.look (l:=[(167,[S167a]),(168,[S168])]) ⟨⟨ok167a,trivial⟩,⟨ok168,trivial⟩,trivial⟩) Tryz.checked.mixed Tryz.func132 (by kernel_rfl) (by kernel_rfl) (by kernel_rfl) (by kernel_rfl) (by kernel_rfl) (by kernel_rfl) (by kernel_rfl)
 fun x y h=>(raw132_eq x).trans h
theorem ok91:FOk Tryz.prog 91 S91:=afun_ok (E:=E91) (fn:=Tryz.f91) (tabOk.opt { flats:=[(93,L93)],owns:=[87],frzs:=[89,90,91] }) (GOk.look (l:=[(132,[S132]),(133,[S133])]) ⟨⟨ok132,trivial⟩,⟨ok133,trivial⟩,trivial⟩) Tryz.checked.mixed Tryz.func91 (by kernel_rfl) (by kernel_rfl) (by kernel_rfl) (by kernel_rfl) (by kernel_rfl) (by kernel_rfl) (by kernel_rfl)
 fun x y h=>(raw91_eq x).trans h
theorem ok134:FOk Tryz.prog 134 S134:=afun_ok (E:=E134) (fn:=Tryz.f134) (tabOk.opt { flats:=[(93,L93)],owns:=[87],frzs:=[89,90,91] }) (GOk.look (l:=[]) trivial) Tryz.checked.mixed Tryz.func134 (by kernel_rfl) (by kernel_rfl) (by kernel_rfl) (by kernel_rfl) (by kernel_rfl) (by kernel_rfl) (by kernel_rfl)
 fun x y h=>(raw134_eq x).trans h
theorem ok135:FOk Tryz.prog 135 S135:=afun_ok (E:=E135) (fn:=Tryz.f135) (tabOk.opt { flats:=[(93,L93)],owns:=[87],frzs:=[89,90,91] }) (GOk.look (l:=[]) trivial) Tryz.checked.mixed Tryz.func135 (by kernel_rfl) (by kernel_rfl) (by kernel_rfl) (by kernel_rfl) (by kernel_rfl) (by kernel_rfl) (by kernel_rfl)
 fun x y h=>(raw135_eq x).trans h
theorem ok95:FOk Tryz.prog 95 S95:=afun_ok (E:=E95) (fn:=Tryz.f95) (tabOk.opt { flats:=[(93,L93)],owns:=[87],frzs:=[89,90,91] }) (GOk.look (l:=[]) trivial) Tryz.checked.mixed Tryz.func95 (by kernel_rfl) (by kernel_rfl) (by kernel_rfl) (by kernel_rfl) (by kernel_rfl) (by kernel_rfl) (by kernel_rfl)
 fun x y h=>(raw95_eq x).trans h
theorem ok136:FOk Tryz.prog 136 S136:=afun_ok (E:=E136) (fn:=Tryz.f136) (tabOk.opt { flats:=[(93,L93)],owns:=[87],frzs:=[89,90,91] }) (GOk.look (l:=[(95,[S95])]) ⟨⟨ok95,trivial⟩,trivial⟩) Tryz.checked.mixed Tryz.func136 (by kernel_rfl) (by kernel_rfl) (by kernel_rfl) (by kernel_rfl) (by kernel_rfl) (by kernel_rfl) (by kernel_rfl)
 fun x y h=>(raw136_eq x).trans h
theorem ok93:FOk Tryz.prog 93 S93:=afun_ok (E:=E93) (fn:=Tryz.f93) (tabOk.opt { flats:=[(93,L93)],owns:=[87],frzs:=[89,90,91] }) (GOk.look (l:=[(136,[S136])]) ⟨⟨ok136,trivial⟩,trivial⟩) Tryz.checked.mixed Tryz.func93 (by kernel_rfl) (by kernel_rfl) (by kernel_rfl) (by kernel_rfl) (by kernel_rfl) (by kernel_rfl) (by kernel_rfl)
 fun x y h=>(raw93_eq x).trans h
theorem ok170:FOk Tryz.prog 170 S170:=afun_ok (E:=E170) (fn:=Tryz.f170) (tabOk.opt { flats:=[(93,L93)],owns:=[87],frzs:=[89,90,91] }) (GOk.look (l:=[(93,[S93])]) ⟨⟨ok93,trivial⟩,trivial⟩) Tryz.checked.mixed Tryz.func170 (by kernel_rfl) (by kernel_rfl) (by kernel_rfl) (by kernel_rfl) (by kernel_rfl) (by kernel_rfl) (by kernel_rfl)
 fun x y h=>(raw170_eq x).trans h
theorem ok169a:FOk Tryz.prog 169 S169a:=afun_ok (E:=E169a) (fn:=Tryz.f169) (tabOk.opt { flats:=[(93,L93)],owns:=[87],frzs:=[89,90,91] }) (GOk.look (l:=[(170,[S170])]) ⟨⟨ok170,trivial⟩,trivial⟩) Tryz.checked.mixed Tryz.func169 (by kernel_rfl) (by kernel_rfl) (by kernel_rfl) (by kernel_rfl) (by kernel_rfl) (by kernel_rfl) (by kernel_rfl)
 fun x y h=>(raw169a_eq x).trans h
theorem ok137:FOk Tryz.prog 137 S137:=afun_ok (E:=E137) (fn:=Tryz.f137) (tabOk.opt { flats:=[(93,L93)],owns:=[87],frzs:=[89,90,91] }) (GOk.look (l:=[(169,[S169a]),(170,[S170])]) ⟨⟨ok169a,trivial⟩,⟨ok170,trivial⟩,trivial⟩) Tryz.checked.mixed Tryz.func137 (by kernel_rfl) (by kernel_rfl) (by kernel_rfl) (by kernel_rfl) (by kernel_rfl) (by kernel_rfl) (by kernel_rfl)
 fun x y h=>(raw137_eq x).trans h
theorem ok138:FOk Tryz.prog 138 S138:=afun_ok (E:=E138) (fn:=Tryz.f138) (tabOk.opt { flats:=[(93,L93)],owns:=[87],frzs:=[89,90,91] }) (GOk.look (l:=[]) trivial) Tryz.checked.mixed Tryz.func138 (by kernel_rfl) (by kernel_rfl) (by kernel_rfl) (by kernel_rfl) (by kernel_rfl) (by kernel_rfl) (by kernel_rfl)
 fun x y h=>(raw138_eq x).trans h
theorem ok92:FOk Tryz.prog 92 S92:=afun_ok (E:=E92) (fn:=Tryz.f92) (tabOk.opt { flats:=[(93,L93)],owns:=[87],frzs:=[89,90,91] }) (GOk.look (l:=[(134,[S134]),(135,[S135]),(136,[S136]),(137,[S137]),(138,[S138])]) ⟨⟨ok134,trivial⟩,⟨ok135,trivial⟩,⟨ok136,trivial⟩,⟨ok137,trivial⟩,⟨ok138,trivial⟩,trivial⟩) Tryz.checked.mixed Tryz.func92 (by kernel_rfl) (by kernel_rfl) (by kernel_rfl) (by kernel_rfl) (by kernel_rfl) (by kernel_rfl) (by kernel_rfl)
 fun x y h=>(raw92_eq x).trans h
theorem ok140:FOk Tryz.prog 140 S140:=afun_ok (E:=E140) (fn:=Tryz.f140) (tabOk.opt { flats:=[(93,L93)],owns:=[87],frzs:=[89,90,91] }) (GOk.look (l:=[(95,[S95])]) ⟨⟨ok95,trivial⟩,trivial⟩) Tryz.checked.mixed Tryz.func140 (by kernel_rfl) (by kernel_rfl) (by kernel_rfl) (by kernel_rfl) (by kernel_rfl) (by kernel_rfl) (by kernel_rfl)
 fun x y h=>(raw140_eq x).trans h
theorem ok139a:FOk Tryz.prog 139 S139a:=afun_ok (E:=E139a) (fn:=Tryz.f139) (tabOk.opt { flats:=[(93,L93)],owns:=[87],frzs:=[89,90,91] }) (GOk.look (l:=[(140,[S140])]) ⟨⟨ok140,trivial⟩,trivial⟩) Tryz.checked.mixed Tryz.func139 (by kernel_rfl) (by kernel_rfl) (by kernel_rfl) (by kernel_rfl) (by kernel_rfl) (by kernel_rfl) (by kernel_rfl)
 fun x y h=>(raw139a_eq x).trans h
theorem ok94:FOk Tryz.prog 94 S94:=afun_ok (E:=E94) (fn:=Tryz.f94) (tabOk.opt { flats:=[(93,L93)],owns:=[87],frzs:=[89,90,91] }) (GOk.look (l:=[(139,[S139a]),(140,[S140])]) ⟨⟨ok139a,trivial⟩,⟨ok140,trivial⟩,trivial⟩) Tryz.checked.mixed Tryz.func94 (by kernel_rfl) (by kernel_rfl) (by kernel_rfl) (by kernel_rfl) (by kernel_rfl) (by kernel_rfl) (by kernel_rfl)
 fun x y h=>(raw94_eq x).trans h
theorem ok96:FOk Tryz.prog 96 S96:=afun_ok (E:=E96) (fn:=Tryz.f96) (tabOk.opt { flats:=[(93,L93)],owns:=[87],frzs:=[89,90,91] }) (GOk.look (l:=[(92,[S92])]) ⟨⟨ok92,trivial⟩,trivial⟩) Tryz.checked.mixed Tryz.func96 (by kernel_rfl) (by kernel_rfl) (by kernel_rfl) (by kernel_rfl) (by kernel_rfl) (by kernel_rfl) (by kernel_rfl)
 fun x y h=>(raw96_eq x).trans h
theorem ok64:FOk Tryz.prog 64 S64:=afun_ok (E:=E64) (fn:=Tryz.f64) (tabOk.opt { flats:=[(93,L93)],owns:=[87],frzs:=[89,90,91] }) (GOk.look (l:=[(91,[S91]),(92,[S92]),(93,[S93]),(94,[S94]),(95,[S95]),(96,[S96])]) ⟨⟨ok91,trivial⟩,⟨ok92,trivial⟩,⟨ok93,trivial⟩,⟨ok94,trivial⟩,⟨ok95,trivial⟩,⟨ok96,trivial⟩,trivial⟩) Tryz.checked.mixed Tryz.func64 (by kernel_rfl) (by kernel_rfl) (by kernel_rfl) (by kernel_rfl) (by kernel_rfl) (by kernel_rfl) (by kernel_rfl)
 fun x y h=>(raw64_eq x).trans h
theorem ok65:FOk Tryz.prog 65 S65:=afun_ok (E:=E65) (fn:=Tryz.f65) (tabOk.opt { flats:=[(93,L93)],owns:=[87],frzs:=[89,90,91] }) (GOk.look (l:=[]) trivial) Tryz.checked.mixed Tryz.func65 (by kernel_rfl) (by kernel_rfl) (by kernel_rfl) (by kernel_rfl) (by kernel_rfl) (by kernel_rfl) (by kernel_rfl)
 fun x y h=>(raw65_eq x).trans h
theorem ok97:FOk Tryz.prog 97 S97:=afun_ok (E:=E97) (fn:=Tryz.f97) (tabOk.opt { flats:=[(93,L93)],owns:=[87],frzs:=[89,90,91] }) (GOk.look (l:=[]) trivial) Tryz.checked.mixed Tryz.func97 (by kernel_rfl) (by kernel_rfl) (by kernel_rfl) (by kernel_rfl) (by kernel_rfl) (by kernel_rfl) (by kernel_rfl)
 fun x y h=>(raw97_eq x).trans h
theorem ok98:FOk Tryz.prog 98 S98:=afun_ok (E:=E98) (fn:=Tryz.f98) (tabOk.opt { flats:=[(93,L93)],owns:=[87],frzs:=[89,90,91] }) (GOk.look (l:=[]) trivial) Tryz.checked.mixed Tryz.func98 (by kernel_rfl) (by kernel_rfl) (by kernel_rfl) (by kernel_rfl) (by kernel_rfl) (by kernel_rfl) (by kernel_rfl)
 fun x y h=>(raw98_eq x).trans h
theorem ok99:FOk Tryz.prog 99 S99:=afun_ok (E:=E99) (fn:=Tryz.f99) (tabOk.opt { flats:=[(93,L93)],owns:=[87],frzs:=[89,90,91] }) (GOk.look (l:=[]) trivial) Tryz.checked.mixed Tryz.func99 (by kernel_rfl) (by kernel_rfl) (by kernel_rfl) (by kernel_rfl) (by kernel_rfl) (by kernel_rfl) (by kernel_rfl)
 fun x y h=>(raw99_eq x).trans h
theorem ok142:FOk Tryz.prog 142 S142:=afun_ok (E:=E142) (fn:=Tryz.f142) (tabOk.opt { flats:=[(93,L93)],owns:=[87],frzs:=[89,90,91] }) (GOk.look (l:=[]) trivial) Tryz.checked.mixed Tryz.func142 (by kernel_rfl) (by kernel_rfl) (by kernel_rfl) (by kernel_rfl) (by kernel_rfl) (by kernel_rfl) (by kernel_rfl)
 fun x y h=>(raw142_eq x).trans h
theorem ok141:FOk Tryz.prog 141 S141:=afun_ok (E:=E141) (fn:=Tryz.f141) (tabOk.opt { flats:=[(93,L93)],owns:=[87],frzs:=[89,90,91] }) (GOk.look (l:=[(142,[S142])]) ⟨⟨ok142,trivial⟩,trivial⟩) Tryz.checked.mixed Tryz.func141 (by kernel_rfl) (by kernel_rfl) (by kernel_rfl) (by kernel_rfl) (by kernel_rfl) (by kernel_rfl) (by kernel_rfl)
 fun x y h=>(raw141_eq x).trans h
theorem ok100:FOk Tryz.prog 100 S100:=afun_ok (E:=E100) (fn:=Tryz.f100) (tabOk.opt { flats:=[(93,L93)],owns:=[87],frzs:=[89,90,91] }) (GOk.look (l:=[(141,[S141])]) ⟨⟨ok141,trivial⟩,trivial⟩) Tryz.checked.mixed Tryz.func100 (by kernel_rfl) (by kernel_rfl) (by kernel_rfl) (by kernel_rfl) (by kernel_rfl) (by kernel_rfl) (by kernel_rfl)
 fun x y h=>(raw100_eq x).trans h
theorem ok101:FOk Tryz.prog 101 S101:=afun_ok (E:=E101) (fn:=Tryz.f101) (tabOk.opt { flats:=[(93,L93)],owns:=[87],frzs:=[89,90,91] }) (GOk.look (l:=[(142,[S142])]) ⟨⟨ok142,trivial⟩,trivial⟩) Tryz.checked.mixed Tryz.func101 (by kernel_rfl) (by kernel_rfl) (by kernel_rfl) (by kernel_rfl) (by kernel_rfl) (by kernel_rfl) (by kernel_rfl)
 fun x y h=>(raw101_eq x).trans h
theorem ok66:FOk Tryz.prog 66 S66:=afun_ok (E:=E66) (fn:=Tryz.f66) (tabOk.opt { flats:=[(93,L93)],owns:=[87],frzs:=[89,90,91] }) (GOk.look (l:=[(91,[S91]),(97,[S97]),(98,[S98]),(99,[S99]),(100,[S100]),(101,[S101])]) ⟨⟨ok91,trivial⟩,⟨ok97,trivial⟩,⟨ok98,trivial⟩,⟨ok99,trivial⟩,⟨ok100,trivial⟩,⟨ok101,trivial⟩,trivial⟩) Tryz.checked.mixed Tryz.func66 (by kernel_rfl) (by kernel_rfl) (by kernel_rfl) (by kernel_rfl) (by kernel_rfl) (by kernel_rfl) (by kernel_rfl)
 fun x y h=>(raw66_eq x).trans h
theorem ok67:FOk Tryz.prog 67 S67:=afun_ok (E:=E67) (fn:=Tryz.f67) (tabOk.opt { flats:=[(93,L93)],owns:=[87],frzs:=[89,90,91] }) (GOk.look (l:=[]) trivial) Tryz.checked.mixed Tryz.func67 (by kernel_rfl) (by kernel_rfl) (by kernel_rfl) (by kernel_rfl) (by kernel_rfl) (by kernel_rfl) (by kernel_rfl)
 fun x y h=>(raw67_eq x).trans h
theorem ok144:FOk Tryz.prog 144 S144:=afun_ok (E:=E144) (fn:=Tryz.f144) (tabOk.opt { flats:=[(93,L93)],owns:=[87],frzs:=[89,90,91] }) (GOk.look (l:=[]) trivial) Tryz.checked.mixed Tryz.func144 (by kernel_rfl) (by kernel_rfl) (by kernel_rfl) (by kernel_rfl) (by kernel_rfl) (by kernel_rfl) (by kernel_rfl)
 fun x y h=>(raw144_eq x).trans h
theorem ok176:FOk Tryz.prog 176 S176:=afun_ok (E:=E176) (fn:=Tryz.f176) (tabOk.opt { flats:=[(93,L93)],owns:=[87],frzs:=[89,90,91] }) (GOk.look (l:=[(144,[S144])]) ⟨⟨ok144,trivial⟩,trivial⟩) Tryz.checked.mixed Tryz.func176 (by kernel_rfl) (by kernel_rfl) (by kernel_rfl) (by kernel_rfl) (by kernel_rfl) (by kernel_rfl) (by kernel_rfl)
 fun x y h=>(raw176_eq x).trans h
theorem ok188a:FOk Tryz.prog 188 S188a:=afun_ok (E:=E188a) (fn:=Tryz.f188) (tabOk.opt { flats:=[(93,L93)],owns:=[87],frzs:=[89,90,91] }) (GOk.look (l:=[(176,[S176])]) ⟨⟨ok176,trivial⟩,trivial⟩) Tryz.checked.mixed Tryz.func188 (by kernel_rfl) (by kernel_rfl) (by kernel_rfl) (by kernel_rfl) (by kernel_rfl) (by kernel_rfl) (by kernel_rfl)
 fun x y h=>(raw188a_eq x).trans h
theorem ok175a:FOk Tryz.prog 175 S175a:=afun_ok (E:=E175a) (fn:=Tryz.f175) (tabOk.opt { flats:=[(93,L93)],owns:=[87],frzs:=[89,90,91] }) (GOk.look (l:=[(176,[S176]),(188,[S188a])]) ⟨⟨ok176,trivial⟩,⟨ok188a,trivial⟩,trivial⟩) Tryz.checked.mixed Tryz.func175 (by kernel_rfl) (by kernel_rfl) (by kernel_rfl) (by kernel_rfl) (by kernel_rfl) (by kernel_rfl) (by kernel_rfl)
 fun x y h=>(raw175a_eq x).trans h
theorem ok145:FOk Tryz.prog 145 S145:=afun_ok (E:=E145) (fn:=Tryz.f145) (tabOk.opt { flats:=[(93,L93)],owns:=[87],frzs:=[89,90,91] }) (GOk.look (l:=[(175,[S175a]),(176,[S176])]) ⟨⟨ok175a,trivial⟩,⟨ok176,trivial⟩,trivial⟩) Tryz.checked.mixed Tryz.func145 (by kernel_rfl) (by kernel_rfl) (by kernel_rfl) (by kernel_rfl) (by kernel_rfl) (by kernel_rfl) (by kernel_rfl)
 fun x y h=>(raw145_eq x).trans h
theorem ok177:FOk Tryz.prog 177 S177:=afun_ok (E:=E177) (fn:=Tryz.f177) (tabOk.opt { flats:=[(93,L93)],owns:=[87],frzs:=[89,90,91] }) (GOk.look (l:=[(144,[S144])]) ⟨⟨ok144,trivial⟩,trivial⟩) Tryz.checked.mixed Tryz.func177 (by kernel_rfl) (by kernel_rfl) (by kernel_rfl) (by kernel_rfl) (by kernel_rfl) (by kernel_rfl) (by kernel_rfl)
 fun x y h=>(raw177_eq x).trans h
theorem ok188b:FOk Tryz.prog 188 S188b:=afun_ok (E:=E188b) (fn:=Tryz.f188) (tabOk.opt { flats:=[(93,L93)],owns:=[87],frzs:=[89,90,91] }) (GOk.look (l:=[(177,[S177])]) ⟨⟨ok177,trivial⟩,trivial⟩) Tryz.checked.mixed Tryz.func188 (by kernel_rfl) (by kernel_rfl) (by kernel_rfl) (by kernel_rfl) (by kernel_rfl) (by kernel_rfl) (by kernel_rfl)
 fun x y h=>(raw188b_eq x).trans h
theorem ok175b:FOk Tryz.prog 175 S175b:=afun_ok (E:=E175b) (fn:=Tryz.f175) (tabOk.opt { flats:=[(93,L93)],owns:=[87],frzs:=[89,90,91] }) (GOk.look (l:=[(177,[S177]),(188,[S188a,S188b])]) ⟨⟨ok177,trivial⟩,⟨ok188a,ok188b,trivial⟩,trivial⟩) Tryz.checked.mixed Tryz.func175 (by kernel_rfl) (by kernel_rfl) (by kernel_rfl) (by kernel_rfl) (by kernel_rfl) (by kernel_rfl) (by kernel_rfl)
 fun x y h=>(raw175b_eq x).trans h
theorem ok146:FOk Tryz.prog 146 S146:=afun_ok (E:=E146) (fn:=Tryz.f146) (tabOk.opt { flats:=[(93,L93)],owns:=[87],frzs:=[89,90,91] }) (GOk.look (l:=[(175,[S175a,S175b]),(177,[S177])]) ⟨⟨ok175a,ok175b,trivial⟩,⟨ok177,trivial⟩,trivial⟩) Tryz.checked.mixed Tryz.func146 (by kernel_rfl) (by kernel_rfl) (by kernel_rfl) (by kernel_rfl) (by kernel_rfl) (by kernel_rfl) (by kernel_rfl)
 fun x y h=>(raw146_eq x).trans h
theorem ok189:FOk Tryz.prog 189 S189:=afun_ok (E:=E189) (fn:=Tryz.f189) (tabOk.opt { flats:=[(93,L93)],owns:=[87],frzs:=[89,90,91] }) (GOk.look (l:=[]) trivial) Tryz.checked.mixed Tryz.func189 (by kernel_rfl) (by kernel_rfl) (by kernel_rfl) (by kernel_rfl) (by kernel_rfl) (by kernel_rfl) (by kernel_rfl)
 fun x y h=>(raw189_eq x).trans h
theorem ok179:FOk Tryz.prog 179 S179:=afun_ok (E:=E179) (fn:=Tryz.f179) (tabOk.opt { flats:=[(93,L93)],owns:=[87],frzs:=[89,90,91] }) (GOk.look (l:=[(189,[S189])]) ⟨⟨ok189,trivial⟩,trivial⟩) Tryz.checked.mixed Tryz.func179 (by kernel_rfl) (by kernel_rfl) (by kernel_rfl) (by kernel_rfl) (by kernel_rfl) (by kernel_rfl) (by kernel_rfl)
 fun x y h=>(raw179_eq x).trans h
theorem ok151:FOk Tryz.prog 151 S151:=afun_ok (E:=E151) (fn:=Tryz.f151) (tabOk.opt { flats:=[(93,L93)],owns:=[87],frzs:=[89,90,91] }) (GOk.look (l:=[(179,[S179])]) ⟨⟨ok179,trivial⟩,trivial⟩) Tryz.checked.mixed Tryz.func151 (by kernel_rfl) (by kernel_rfl) (by kernel_rfl) (by kernel_rfl) (by kernel_rfl) (by kernel_rfl) (by kernel_rfl)
 fun x y h=>(raw151_eq x).trans h
theorem ok149:FOk Tryz.prog 149 S149:=afun_ok (E:=E149) (fn:=Tryz.f149) (tabOk.opt { flats:=[(93,L93)],owns:=[87],frzs:=[89,90,91] }) (GOk.look (l:=[(151,[S151])]) ⟨⟨ok151,trivial⟩,trivial⟩) Tryz.checked.mixed Tryz.func149 (by kernel_rfl) (by kernel_rfl) (by kernel_rfl) (by kernel_rfl) (by kernel_rfl) (by kernel_rfl) (by kernel_rfl)
 fun x y h=>(raw149_eq x).trans h
theorem ok148:FOk Tryz.prog 148 S148:=afun_ok (E:=E148) (fn:=Tryz.f148) (tabOk.opt { flats:=[(93,L93)],owns:=[87],frzs:=[89,90,91] }) (GOk.look (l:=[(59,[S59]),(149,[S149])]) ⟨⟨ok59,trivial⟩,⟨ok149,trivial⟩,trivial⟩) Tryz.checked.mixed Tryz.func148 (by kernel_rfl) (by kernel_rfl) (by kernel_rfl) (by kernel_rfl) (by kernel_rfl) (by kernel_rfl) (by kernel_rfl)
 fun x y h=>(raw148_eq x).trans h
theorem ok178a:FOk Tryz.prog 178 S178a:=afun_ok (E:=E178a) (fn:=Tryz.f178) (tabOk.opt { flats:=[(93,L93)],owns:=[87],frzs:=[89,90,91] }) (GOk.look (l:=[(148,[S148])]) ⟨⟨ok148,trivial⟩,trivial⟩) Tryz.checked.mixed Tryz.func178 (by kernel_rfl) (by kernel_rfl) (by kernel_rfl) (by kernel_rfl) (by kernel_rfl) (by kernel_rfl) (by kernel_rfl)
 fun x y h=>(raw178a_eq x).trans h
theorem ok147a:FOk Tryz.prog 147 S147a:=afun_ok (E:=E147a) (fn:=Tryz.f147) (tabOk.opt { flats:=[(93,L93)],owns:=[87],frzs:=[89,90,91] }) (GOk.look (l:=[(148,[S148]),(178,[S178a])]) ⟨⟨ok148,trivial⟩,⟨ok178a,trivial⟩,trivial⟩) Tryz.checked.mixed Tryz.func147 (by kernel_rfl) (by kernel_rfl) (by kernel_rfl) (by kernel_rfl) (by kernel_rfl) (by kernel_rfl) (by kernel_rfl)
 fun x y h=>(raw147a_eq x).trans h
theorem ok104:FOk Tryz.prog 104 S104:=afun_ok (E:=E104) (fn:=Tryz.f104) (tabOk.opt { flats:=[(93,L93)],owns:=[87],frzs:=[89,90,91] }) (GOk.look (l:=[(146,[S146]),(147,[S147a]),(148,[S148])]) ⟨⟨ok146,trivial⟩,⟨ok147a,trivial⟩,⟨ok148,trivial⟩,trivial⟩) Tryz.checked.mixed Tryz.func104 (by kernel_rfl) (by kernel_rfl) (by kernel_rfl) (by kernel_rfl) (by kernel_rfl) (by kernel_rfl) (by kernel_rfl)
 fun x y h=>(raw104_eq x).trans h
theorem ok180:FOk Tryz.prog 180 S180:=afun_ok (E:=E180) (fn:=Tryz.f180) (tabOk.opt { flats:=[(93,L93)],owns:=[87],frzs:=[89,90,91] }) (GOk.look (l:=[(104,[S104]),(144,[S144]),(145,[S145])]) ⟨⟨ok104,trivial⟩,⟨ok144,trivial⟩,⟨ok145,trivial⟩,trivial⟩) Tryz.checked.mixed Tryz.func180 (by kernel_rfl) (by kernel_rfl) (by kernel_rfl) (by kernel_rfl) (by kernel_rfl) (by kernel_rfl) (by kernel_rfl)
 fun x y h=>(raw180_eq x).trans h
theorem ok181:FOk Tryz.prog 181 S181:=afun_ok (E:=E181) (fn:=Tryz.f181) (tabOk.opt { flats:=[(93,L93)],owns:=[87],frzs:=[89,90,91] }) (GOk.look (l:=[(144,[S144]),(145,[S145])]) ⟨⟨ok144,trivial⟩,⟨ok145,trivial⟩,trivial⟩) Tryz.checked.mixed Tryz.func181 (by kernel_rfl) (by kernel_rfl) (by kernel_rfl) (by kernel_rfl) (by kernel_rfl) (by kernel_rfl) (by kernel_rfl)
 fun x y h=>(raw181_eq x).trans h
theorem ok152:FOk Tryz.prog 152 S152:=afun_ok (E:=E152) (fn:=Tryz.f152) (tabOk.opt { flats:=[(93,L93)],owns:=[87],frzs:=[89,90,91] }) (GOk.look (l:=[(180,[S180]),(181,[S181])]) ⟨⟨ok180,trivial⟩,⟨ok181,trivial⟩,trivial⟩) Tryz.checked.mixed Tryz.func152 (by kernel_rfl) (by kernel_rfl) (by kernel_rfl) (by kernel_rfl) (by kernel_rfl) (by kernel_rfl) (by kernel_rfl)
 fun x y h=>(raw152_eq x).trans h
theorem ok185:FOk Tryz.prog 185 S185:=afun_ok (E:=E185) (fn:=Tryz.f185) (tabOk.opt { flats:=[(93,L93)],owns:=[87],frzs:=[89,90,91] }) (GOk.look (l:=[]) trivial) Tryz.checked.mixed Tryz.func185 (by kernel_rfl) (by kernel_rfl) (by kernel_rfl) (by kernel_rfl) (by kernel_rfl) (by kernel_rfl) (by kernel_rfl)
 fun x y h=>(raw185_eq x).trans h
theorem ok171:FOk Tryz.prog 171 S171:=afun_ok (E:=E171) (fn:=Tryz.f171) (tabOk.opt { flats:=[(93,L93)],owns:=[87],frzs:=[89,90,91] }) (GOk.look (l:=[(185,[S185])]) ⟨⟨ok185,trivial⟩,trivial⟩) Tryz.checked.mixed Tryz.func171 (by kernel_rfl) (by kernel_rfl) (by kernel_rfl) (by kernel_rfl) (by kernel_rfl) (by kernel_rfl) (by kernel_rfl)
 fun x y h=>(raw171_eq x).trans h
theorem ok103:FOk Tryz.prog 103 S103:=afun_ok (E:=E103) (fn:=Tryz.f103) (tabOk.opt { flats:=[(93,L93)],owns:=[87],frzs:=[89,90,91] }) (GOk.look (l:=[(59,[S59]),(90,[S90])]) ⟨⟨ok59,trivial⟩,⟨ok90,trivial⟩,trivial⟩) Tryz.checked.mixed Tryz.func103 (by kernel_rfl) (by kernel_rfl) (by kernel_rfl) (by kernel_rfl) (by kernel_rfl) (by kernel_rfl) (by kernel_rfl)
 fun x y h=>(raw103_eq x).trans h
theorem ok186:FOk Tryz.prog 186 S186:=afun_ok (E:=E186) (fn:=Tryz.f186) (tabOk.opt { flats:=[(93,L93)],owns:=[87],frzs:=[89,90,91] }) (GOk.look (l:=[(59,[S59]),(146,[S146])]) ⟨⟨ok59,trivial⟩,⟨ok146,trivial⟩,trivial⟩) Tryz.checked.mixed Tryz.func186 (by kernel_rfl) (by kernel_rfl) (by kernel_rfl) (by kernel_rfl) (by kernel_rfl) (by kernel_rfl) (by kernel_rfl)
 fun x y h=>(raw186_eq x).trans h
theorem ok193:FOk Tryz.prog 193 S193:=afun_ok (E:=E193) (fn:=Tryz.f193) (tabOk.opt { flats:=[(93,L93)],owns:=[87],frzs:=[89,90,91] }) (GOk.look (l:=[(59,[S59]),(144,[S144])]) ⟨⟨ok59,trivial⟩,⟨ok144,trivial⟩,trivial⟩) Tryz.checked.mixed Tryz.func193 (by kernel_rfl) (by kernel_rfl) (by kernel_rfl) (by kernel_rfl) (by kernel_rfl) (by kernel_rfl) (by kernel_rfl)
 fun x y h=>(raw193_eq x).trans h
theorem ok192:FOk Tryz.prog 192 S192:=afun_ok (E:=E192) (fn:=Tryz.f192) (tabOk.opt { flats:=[(93,L93)],owns:=[87],frzs:=[89,90,91] }) (GOk.look (l:=[(193,[S193])]) ⟨⟨ok193,trivial⟩,trivial⟩) Tryz.checked.mixed Tryz.func192 (by kernel_rfl) (by kernel_rfl) (by kernel_rfl) (by kernel_rfl) (by kernel_rfl) (by kernel_rfl) (by kernel_rfl)
 fun x y h=>(raw192_eq x).trans h
theorem ok195a:FOk Tryz.prog 195 S195a:=afun_ok (E:=E195a) (fn:=Tryz.f195) (tabOk.opt { flats:=[(93,L93)],owns:=[87],frzs:=[89,90,91] }) (GOk.look (l:=[(192,[S192])]) ⟨⟨ok192,trivial⟩,trivial⟩) Tryz.checked.mixed Tryz.func195 (by kernel_rfl) (by kernel_rfl) (by kernel_rfl) (by kernel_rfl) (by kernel_rfl) (by kernel_rfl) (by kernel_rfl)
 fun x y h=>(raw195a_eq x).trans h
theorem ok191a:FOk Tryz.prog 191 S191a:=afun_ok (E:=E191a) (fn:=Tryz.f191) (tabOk.opt { flats:=[(93,L93)],owns:=[87],frzs:=[89,90,91] }) (GOk.look (l:=[(192,[S192]),(195,[S195a])]) ⟨⟨ok192,trivial⟩,⟨ok195a,trivial⟩,trivial⟩) Tryz.checked.mixed Tryz.func191 (by kernel_rfl) (by kernel_rfl) (by kernel_rfl) (by kernel_rfl) (by kernel_rfl) (by kernel_rfl) (by kernel_rfl)
 fun x y h=>(raw191a_eq x).trans h
theorem ok196:FOk Tryz.prog 196 S196:=afun_ok (E:=E196) (fn:=Tryz.f196) (tabOk.opt { flats:=[(93,L93)],owns:=[87],frzs:=[89,90,91] }) (GOk.look (l:=[(103,[S103]),(186,[S186])]) ⟨⟨ok103,trivial⟩,⟨ok186,trivial⟩,trivial⟩) Tryz.checked.mixed Tryz.func196 (by kernel_rfl) (by kernel_rfl) (by kernel_rfl) (by kernel_rfl) (by kernel_rfl) (by kernel_rfl) (by kernel_rfl)
 fun x y h=>(raw196_eq x).trans h
theorem ok201:FOk Tryz.prog 201 S201:=afun_ok (E:=E201) (fn:=Tryz.f201) (tabOk.opt { flats:=[(93,L93)],owns:=[87],frzs:=[89,90,91] }) (GOk.look (l:=[(59,[S59]),(103,[S103])]) ⟨⟨ok59,trivial⟩,⟨ok103,trivial⟩,trivial⟩) Tryz.checked.mixed Tryz.func201 (by kernel_rfl) (by kernel_rfl) (by kernel_rfl) (by kernel_rfl) (by kernel_rfl) (by kernel_rfl) (by kernel_rfl)
 fun x y h=>(raw201_eq x).trans h
theorem ok199:FOk Tryz.prog 199 S199:=afun_ok (E:=E199) (fn:=Tryz.f199) (tabOk.opt { flats:=[(93,L93)],owns:=[87],frzs:=[89,90,91] }) (GOk.look (l:=[(201,[S201])]) ⟨⟨ok201,trivial⟩,trivial⟩) Tryz.checked.mixed Tryz.func199 (by kernel_rfl) (by kernel_rfl) (by kernel_rfl) (by kernel_rfl) (by kernel_rfl) (by kernel_rfl) (by kernel_rfl)
 fun x y h=>(raw199_eq x).trans h
theorem ok198:FOk Tryz.prog 198 S198:=afun_ok (E:=E198) (fn:=Tryz.f198) (tabOk.opt { flats:=[(93,L93)],owns:=[87],frzs:=[89,90,91] }) (GOk.look (l:=[(199,[S199])]) ⟨⟨ok199,trivial⟩,trivial⟩) Tryz.checked.mixed Tryz.func198 (by kernel_rfl) (by kernel_rfl) (by kernel_rfl) (by kernel_rfl) (by kernel_rfl) (by kernel_rfl) (by kernel_rfl)
 fun x y h=>(raw198_eq x).trans h
theorem ok198a:FOk Tryz.prog 198 S198a:=afun_ok (E:=E198a) (fn:=Tryz.f198) (tabOk.opt { flats:=[(93,L93)],owns:=[87],frzs:=[89,90,91] }) (GOk.look (l:=[(199,[S199])]) ⟨⟨ok199,trivial⟩,trivial⟩) Tryz.checked.mixed Tryz.func198 (by kernel_rfl) (by kernel_rfl) (by kernel_rfl) (by kernel_rfl) (by kernel_rfl) (by kernel_rfl) (by kernel_rfl)
 fun x y h=>(raw198a_eq x).trans h
theorem ok200a:FOk Tryz.prog 200 S200a:=afun_ok (E:=E200a) (fn:=Tryz.f200) (tabOk.opt { flats:=[(93,L93)],owns:=[87],frzs:=[89,90,91] }) (GOk.look (l:=[(198,[S198,S198a])]) ⟨⟨ok198,ok198a,trivial⟩,trivial⟩) Tryz.checked.mixed Tryz.func200 (by kernel_rfl) (by kernel_rfl) (by kernel_rfl) (by kernel_rfl) (by kernel_rfl) (by kernel_rfl) (by kernel_rfl)
 fun x y h=>(raw200a_eq x).trans h
theorem ok197a:FOk Tryz.prog 197 S197a:=afun_ok (E:=E197a) (fn:=Tryz.f197) (tabOk.opt { flats:=[(93,L93)],owns:=[87],frzs:=[89,90,91] }) (GOk.look (l:=[(198,[S198,S198a]),(200,[S200a])]) ⟨⟨ok198,ok198a,trivial⟩,⟨ok200a,trivial⟩,trivial⟩) Tryz.checked.mixed Tryz.func197 (by kernel_rfl) (by kernel_rfl) (by kernel_rfl) (by kernel_rfl) (by kernel_rfl) (by kernel_rfl) (by kernel_rfl)
 fun x y h=>(raw197a_eq x).trans h
theorem ok194:FOk Tryz.prog 194 S194:=afun_ok (E:=E194) (fn:=Tryz.f194) (tabOk.opt { flats:=[(93,L93)],owns:=[87],frzs:=[89,90,91] }) (GOk.look (l:=[(196,[S196]),(197,[S197a]),(198,[S198,S198a])]) ⟨⟨ok196,trivial⟩,⟨ok197a,trivial⟩,⟨ok198,ok198a,trivial⟩,trivial⟩) Tryz.checked.mixed Tryz.func194 (by kernel_rfl) (by kernel_rfl) (by kernel_rfl) (by kernel_rfl) (by kernel_rfl) (by kernel_rfl) (by kernel_rfl)
 fun x y h=>(raw194_eq x).trans h
theorem ok187:FOk Tryz.prog 187 S187:=afun_ok (E:=E187) (fn:=Tryz.f187) (tabOk.opt { flats:=[(93,L93)],owns:=[87],frzs:=[89,90,91] }) (GOk.look (l:=[(191,[S191a]),(192,[S192]),(194,[S194])]) ⟨⟨ok191a,trivial⟩,⟨ok192,trivial⟩,⟨ok194,trivial⟩,trivial⟩) Tryz.checked.mixed Tryz.func187 (by kernel_rfl) (by kernel_rfl) (by kernel_rfl) (by kernel_rfl) (by kernel_rfl) (by kernel_rfl) (by kernel_rfl)
 fun x y h=>(raw187_eq x).trans h
theorem ok172:FOk Tryz.prog 172 S172:=afun_ok (E:=E172) (fn:=Tryz.f172) (tabOk.opt { flats:=[(93,L93)],owns:=[87],frzs:=[89,90,91] }) (GOk.look (l:=[(103,[S103]),(144,[S144]),(145,[S145]),(186,[S186]),(187,[S187])]) ⟨⟨ok103,trivial⟩,⟨ok144,trivial⟩,⟨ok145,trivial⟩,⟨ok186,trivial⟩,⟨ok187,trivial⟩,trivial⟩) Tryz.checked.mixed Tryz.func172 (by kernel_rfl) (by kernel_rfl) (by kernel_rfl) (by kernel_rfl) (by kernel_rfl) (by kernel_rfl) (by kernel_rfl)
 fun x y h=>(raw172_eq x).trans h
theorem ok173:FOk Tryz.prog 173 S173:=afun_ok (E:=E173) (fn:=Tryz.f173) (tabOk.opt { flats:=[(93,L93)],owns:=[87],frzs:=[89,90,91] }) (GOk.look (l:=[(59,[S59]),(149,[S149])]) ⟨⟨ok59,trivial⟩,⟨ok149,trivial⟩,trivial⟩) Tryz.checked.mixed Tryz.func173 (by kernel_rfl) (by kernel_rfl) (by kernel_rfl) (by kernel_rfl) (by kernel_rfl) (by kernel_rfl) (by kernel_rfl)
 fun x y h=>(raw173_eq x).trans h
theorem ok174:FOk Tryz.prog 174 S174:=afun_ok (E:=E174) (fn:=Tryz.f174) (tabOk.opt { flats:=[(93,L93)],owns:=[87],frzs:=[89,90,91] }) (GOk.look (l:=[(59,[S59]),(145,[S145]),(149,[S149])]) ⟨⟨ok59,trivial⟩,⟨ok145,trivial⟩,⟨ok149,trivial⟩,trivial⟩) Tryz.checked.mixed Tryz.func174 (by kernel_rfl) (by kernel_rfl) (by kernel_rfl) (by kernel_rfl) (by kernel_rfl) (by kernel_rfl) (by kernel_rfl)
 fun x y h=>(raw174_eq x).trans h
theorem ok143:FOk Tryz.prog 143 S143:=afun_ok (E:=E143) (fn:=Tryz.f143) (tabOk.opt { flats:=[(93,L93)],owns:=[87],frzs:=[89,90,91] }) (GOk.look (l:=[(40,[S40]),(92,[S92]),(145,[S145]),(152,[S152]),(171,[S171]),(172,[S172]),(173,[S173]),(174,[S174])]) ⟨⟨ok40,trivial⟩,⟨ok92,trivial⟩,⟨ok145,trivial⟩,⟨ok152,trivial⟩,⟨ok171,trivial⟩,⟨ok172,trivial⟩,⟨ok173,trivial⟩,⟨ok174,trivial⟩,trivial⟩) Tryz.checked.mixed Tryz.func143 (by kernel_rfl) (by kernel_rfl) (by kernel_rfl) (by kernel_rfl) (by kernel_rfl) (by kernel_rfl) (by kernel_rfl)
 fun x y h=>(raw143_eq x).trans h
theorem ok102:FOk Tryz.prog 102 S102:=afun_ok (E:=E102) (fn:=Tryz.f102) (tabOk.opt { flats:=[(93,L93)],owns:=[87],frzs:=[89,90,91] }) (GOk.look (l:=[(143,[S143]),(144,[S144]),(145,[S145])]) ⟨⟨ok143,trivial⟩,⟨ok144,trivial⟩,⟨ok145,trivial⟩,trivial⟩) Tryz.checked.mixed Tryz.func102 (by kernel_rfl) (by kernel_rfl) (by kernel_rfl) (by kernel_rfl) (by kernel_rfl) (by kernel_rfl) (by kernel_rfl)
 fun x y h=>(raw102_eq x).trans h
theorem ok68:FOk Tryz.prog 68 S68:=afun_ok (E:=E68) (fn:=Tryz.f68) (tabOk.opt { flats:=[(93,L93)],owns:=[87],frzs:=[89,90,91] }) (GOk.look (l:=[(40,[S40]),(59,[S59]),(67,[S67]),(102,[S102]),(103,[S103])]) ⟨⟨ok40,trivial⟩,⟨ok59,trivial⟩,⟨ok67,trivial⟩,⟨ok102,trivial⟩,⟨ok103,trivial⟩,trivial⟩) Tryz.checked.mixed Tryz.func68 (by kernel_rfl) (by kernel_rfl) (by kernel_rfl) (by kernel_rfl) (by kernel_rfl) (by kernel_rfl) (by kernel_rfl)
 fun x y h=>(raw68_eq x).trans h
theorem ok150:FOk Tryz.prog 150 S150:=afun_ok (E:=E150) (fn:=Tryz.f150) (tabOk.opt { flats:=[(93,L93)],owns:=[87],frzs:=[89,90,91] }) (GOk.look (l:=[(59,[S59]),(151,[S151])]) ⟨⟨ok59,trivial⟩,⟨ok151,trivial⟩,trivial⟩) Tryz.checked.mixed Tryz.func150 (by kernel_rfl) (by kernel_rfl) (by kernel_rfl) (by kernel_rfl) (by kernel_rfl) (by kernel_rfl) (by kernel_rfl)
 fun x y h=>(raw150_eq x).trans h
theorem ok178b:FOk Tryz.prog 178 S178b:=afun_ok (E:=E178b) (fn:=Tryz.f178) (tabOk.opt { flats:=[(93,L93)],owns:=[87],frzs:=[89,90,91] }) (GOk.look (l:=[(150,[S150])]) ⟨⟨ok150,trivial⟩,trivial⟩) Tryz.checked.mixed Tryz.func178 (by kernel_rfl) (by kernel_rfl) (by kernel_rfl) (by kernel_rfl) (by kernel_rfl) (by kernel_rfl) (by kernel_rfl)
 fun x y h=>(raw178b_eq x).trans h
theorem ok147b:FOk Tryz.prog 147 S147b:=afun_ok (E:=E147b) (fn:=Tryz.f147) (tabOk.opt { flats:=[(93,L93)],owns:=[87],frzs:=[89,90,91] }) (GOk.look (l:=[(150,[S150]),(178,[S178a,S178b])]) ⟨⟨ok150,trivial⟩,⟨ok178a,ok178b,trivial⟩,trivial⟩) Tryz.checked.mixed Tryz.func147 (by kernel_rfl) (by kernel_rfl) (by kernel_rfl) (by kernel_rfl) (by kernel_rfl) (by kernel_rfl) (by kernel_rfl)
 fun x y h=>(raw147b_eq x).trans h
theorem ok106:FOk Tryz.prog 106 S106:=afun_ok (E:=E106) (fn:=Tryz.f106) (tabOk.opt { flats:=[(93,L93)],owns:=[87],frzs:=[89,90,91] }) (GOk.look (l:=[(147,[S147a,S147b]),(150,[S150])]) ⟨⟨ok147a,ok147b,trivial⟩,⟨ok150,trivial⟩,trivial⟩) Tryz.checked.mixed Tryz.func106 (by kernel_rfl) (by kernel_rfl) (by kernel_rfl) (by kernel_rfl) (by kernel_rfl) (by kernel_rfl) (by kernel_rfl)
 fun x y h=>(raw106_eq x).trans h
theorem ok105:FOk Tryz.prog 105 S105:=afun_ok (E:=E105) (fn:=Tryz.f105) (tabOk.opt { flats:=[(93,L93)],owns:=[87],frzs:=[89,90,91] }) (GOk.look (l:=[(67,[S67]),(106,[S106])]) ⟨⟨ok67,trivial⟩,⟨ok106,trivial⟩,trivial⟩) Tryz.checked.mixed Tryz.func105 (by kernel_rfl) (by kernel_rfl) (by kernel_rfl) (by kernel_rfl) (by kernel_rfl) (by kernel_rfl) (by kernel_rfl)
 fun x y h=>(raw105_eq x).trans h
theorem ok107:FOk Tryz.prog 107 S107:=afun_ok (E:=E107) (fn:=Tryz.f107) (tabOk.opt { flats:=[(93,L93)],owns:=[87],frzs:=[89,90,91] }) (GOk.look (l:=[]) trivial) Tryz.checked.mixed Tryz.func107 (by kernel_rfl) (by kernel_rfl) (by kernel_rfl) (by kernel_rfl) (by kernel_rfl) (by kernel_rfl) (by kernel_rfl)
 fun x y h=>(raw107_eq x).trans h
theorem ok108:FOk Tryz.prog 108 S108:=afun_ok (E:=E108) (fn:=Tryz.f108) (tabOk.opt { flats:=[(93,L93)],owns:=[87],frzs:=[89,90,91] }) (GOk.look (l:=[(145,[S145]),(146,[S146]),(152,[S152])]) ⟨⟨ok145,trivial⟩,⟨ok146,trivial⟩,⟨ok152,trivial⟩,trivial⟩) Tryz.checked.mixed Tryz.func108 (by kernel_rfl) (by kernel_rfl) (by kernel_rfl) (by kernel_rfl) (by kernel_rfl) (by kernel_rfl) (by kernel_rfl)
 fun x y h=>(raw108_eq x).trans h
theorem ok153a:FOk Tryz.prog 153 S153a:=afun_ok (E:=E153a) (fn:=Tryz.f153) (tabOk.opt { flats:=[(93,L93)],owns:=[87],frzs:=[89,90,91] }) (GOk.look (l:=[(40,[S40])]) ⟨⟨ok40,trivial⟩,trivial⟩) Tryz.checked.mixed Tryz.func153 (by kernel_rfl) (by kernel_rfl) (by kernel_rfl) (by kernel_rfl) (by kernel_rfl) (by kernel_rfl) (by kernel_rfl)
 fun x y h=>(raw153a_eq x).trans h
theorem ok153b:FOk Tryz.prog 153 S153b:=afun_ok (E:=E153b) (fn:=Tryz.f153) (tabOk.opt { flats:=[(93,L93)],owns:=[87],frzs:=[89,90,91] }) (GOk.look (l:=[(59,[S59])]) ⟨⟨ok59,trivial⟩,trivial⟩) Tryz.checked.mixed Tryz.func153 (by kernel_rfl) (by kernel_rfl) (by kernel_rfl) (by kernel_rfl) (by kernel_rfl) (by kernel_rfl) (by kernel_rfl)
 fun x y h=>(raw153b_eq x).trans h
theorem ok109:FOk Tryz.prog 109 S109:=afun_ok (E:=E109) (fn:=Tryz.f109) (tabOk.opt { flats:=[(93,L93)],owns:=[87],frzs:=[89,90,91] }) (GOk.look (l:=[(40,[S40]),(59,[S59]),(146,[S146]),(153,[S153a,S153b])]) ⟨⟨ok40,trivial⟩,⟨ok59,trivial⟩,⟨ok146,trivial⟩,⟨ok153a,ok153b,trivial⟩,trivial⟩) Tryz.checked.mixed Tryz.func109 (by kernel_rfl) (by kernel_rfl) (by kernel_rfl) (by kernel_rfl) (by kernel_rfl) (by kernel_rfl) (by kernel_rfl)
 fun x y h=>(raw109_eq x).trans h
theorem ok69:FOk Tryz.prog 69 S69:=afun_ok (E:=E69) (fn:=Tryz.f69) (tabOk.opt { flats:=[(93,L93)],owns:=[87],frzs:=[89,90,91] }) (GOk.look (l:=[(67,[S67]),(104,[S104]),(105,[S105]),(106,[S106]),(107,[S107]),(108,[S108]),(109,[S109])]) ⟨⟨ok67,trivial⟩,⟨ok104,trivial⟩,⟨ok105,trivial⟩,⟨ok106,trivial⟩,⟨ok107,trivial⟩,⟨ok108,trivial⟩,⟨ok109,trivial⟩,trivial⟩) Tryz.checked.mixed Tryz.func69 (by kernel_rfl) (by kernel_rfl) (by kernel_rfl) (by kernel_rfl) (by kernel_rfl) (by kernel_rfl) (by kernel_rfl)
 fun x y h=>(raw69_eq x).trans h
theorem ok48:FOk Tryz.prog 48 S48:=afun_ok (E:=E48) (fn:=Tryz.f48) (tabOk.opt { flats:=[(93,L93)],owns:=[87],frzs:=[89,90,91] }) (GOk.look (l:=[(64,[S64]),(65,[S65]),(66,[S66]),(67,[S67]),(68,[S68]),(69,[S69])]) ⟨⟨ok64,trivial⟩,⟨ok65,trivial⟩,⟨ok66,trivial⟩,⟨ok67,trivial⟩,⟨ok68,trivial⟩,⟨ok69,trivial⟩,trivial⟩) Tryz.checked.mixed Tryz.func48 (by kernel_rfl) (by kernel_rfl) (by kernel_rfl) (by kernel_rfl) (by kernel_rfl) (by kernel_rfl) (by kernel_rfl)
 fun x y h=>(raw48_eq x).trans h
theorem ok25:FOk Tryz.prog 25 S25:=afun_ok (E:=E25) (fn:=Tryz.f25) (tabOk.opt { flats:=[(93,L93)],owns:=[87],frzs:=[89,90,91] }) (GOk.look (l:=[(42,[S42]),(47,[S47]),(48,[S48]),(49,[S49])]) ⟨⟨ok42,trivial⟩,⟨ok47,trivial⟩,⟨ok48,trivial⟩,⟨ok49,trivial⟩,trivial⟩) Tryz.checked.mixed Tryz.func25 (by kernel_rfl) (by kernel_rfl) (by kernel_rfl) (by kernel_rfl) (by kernel_rfl) (by kernel_rfl) (by kernel_rfl)
 fun x y h=>(raw25_eq x).trans h
theorem ok9:FOk Tryz.prog 9 S9:=afun_ok (E:=E9) (fn:=Tryz.f9) (tabOk.opt { flats:=[(93,L93)],owns:=[87],frzs:=[89,90,91] }) (GOk.look (l:=[(22,[S22]),(23,[S23]),(24,[S24]),(25,[S25])]) ⟨⟨ok22,trivial⟩,⟨ok23,trivial⟩,⟨ok24,trivial⟩,⟨ok25,trivial⟩,trivial⟩) Tryz.checked.mixed Tryz.func9 (by kernel_rfl) (by kernel_rfl) (by kernel_rfl) (by kernel_rfl) (by kernel_rfl) (by kernel_rfl) (by kernel_rfl)
 fun x y h=>(raw9_eq x).trans h
theorem ok9a:FOk Tryz.prog 9 S9a:=afun_ok (E:=E9a) (fn:=Tryz.f9) (tabOk.opt { flats:=[(93,L93)],owns:=[87],frzs:=[89,90,91] }) (GOk.look (l:=[(22,[S22]),(23,[S23]),(24,[S24]),(25,[S25])]) ⟨⟨ok22,trivial⟩,⟨ok23,trivial⟩,⟨ok24,trivial⟩,⟨ok25,trivial⟩,trivial⟩) Tryz.checked.mixed Tryz.func9 (by kernel_rfl) (by kernel_rfl) (by kernel_rfl) (by kernel_rfl) (by kernel_rfl) (by kernel_rfl) (by kernel_rfl)
 fun x y h=>(raw9a_eq x).trans h
theorem ok4:FOk Tryz.prog 4 S4:=afun_ok (E:=E4) (fn:=Tryz.f4) (tabOk.opt { flats:=[(93,L93)],owns:=[87],frzs:=[89,90,91] }) (GOk.look (l:=[(7,[S7]),(9,[S9,S9a])]) ⟨⟨ok7,trivial⟩,⟨ok9,ok9a,trivial⟩,trivial⟩) Tryz.checked.mixed Tryz.func4 (by kernel_rfl) (by kernel_rfl) (by kernel_rfl) (by kernel_rfl) (by kernel_rfl) (by kernel_rfl) (by kernel_rfl)
 fun x y h=>(raw4_eq x).trans h
theorem ok36:FOk Tryz.prog 36 S36:=afun_ok (E:=E36) (fn:=Tryz.f36) (tabOk.opt { flats:=[(93,L93)],owns:=[87],frzs:=[89,90,91] }) (GOk.look (l:=[]) trivial) Tryz.checked.mixed Tryz.func36 (by kernel_rfl) (by kernel_rfl) (by kernel_rfl) (by kernel_rfl) (by kernel_rfl) (by kernel_rfl) (by kernel_rfl)
 fun x y h=>(raw36_eq x).trans h
theorem ok57:FOk Tryz.prog 57 S57:=afun_ok (E:=E57) (fn:=Tryz.f57) (tabOk.opt { flats:=[(93,L93)],owns:=[87],frzs:=[89,90,91] }) (GOk.look (l:=[]) trivial) Tryz.checked.mixed Tryz.func57 (by kernel_rfl) (by kernel_rfl) (by kernel_rfl) (by kernel_rfl) (by kernel_rfl) (by kernel_rfl) (by kernel_rfl)
 fun x y h=>(raw57_eq x).trans h
theorem ok37:FOk Tryz.prog 37 S37:=afun_ok (E:=E37) (fn:=Tryz.f37) (tabOk.opt { flats:=[(93,L93)],owns:=[87],frzs:=[89,90,91] }) (GOk.look (l:=[(57,[S57])]) ⟨⟨ok57,trivial⟩,trivial⟩) Tryz.checked.mixed Tryz.func37 (by kernel_rfl) (by kernel_rfl) (by kernel_rfl) (by kernel_rfl) (by kernel_rfl) (by kernel_rfl) (by kernel_rfl)
 fun x y h=>(raw37_eq x).trans h
theorem ok18:FOk Tryz.prog 18 S18:=afun_ok (E:=E18) (fn:=Tryz.f18) (tabOk.opt { flats:=[(93,L93)],owns:=[87],frzs:=[89,90,91] }) (GOk.look (l:=[(36,[S36]),(37,[S37])]) ⟨⟨ok36,trivial⟩,⟨ok37,trivial⟩,trivial⟩) Tryz.checked.mixed Tryz.func18 (by kernel_rfl) (by kernel_rfl) (by kernel_rfl) (by kernel_rfl) (by kernel_rfl) (by kernel_rfl) (by kernel_rfl)
 fun x y h=>(raw18_eq x).trans h
theorem ok5:FOk Tryz.prog 5 S5:=afun_ok (E:=E5) (fn:=Tryz.f5) (tabOk.opt { flats:=[(93,L93)],owns:=[87],frzs:=[89,90,91] }) (GOk.look (l:=[(18,[S18])]) ⟨⟨ok18,trivial⟩,trivial⟩) Tryz.checked.mixed Tryz.func5 (by kernel_rfl) (by kernel_rfl) (by kernel_rfl) (by kernel_rfl) (by kernel_rfl) (by kernel_rfl) (by kernel_rfl)
 fun x y h=>(raw5_eq x).trans h
theorem ok89:FOk Tryz.prog 89 S89:=afun_ok (E:=E89) (fn:=Tryz.f89) (tabOk.opt { flats:=[(93,L93)],owns:=[87],frzs:=[89,90,91] }) (GOk.look (l:=[]) trivial) Tryz.checked.mixed Tryz.func89 (by kernel_rfl) (by kernel_rfl) (by kernel_rfl) (by kernel_rfl) (by kernel_rfl) (by kernel_rfl) (by kernel_rfl)
 fun x y h=>(raw89_eq x).trans h
theorem ok58:FOk Tryz.prog 58 S58:=afun_ok (E:=E58) (fn:=Tryz.f58) (tabOk.opt { flats:=[(93,L93)],owns:=[87],frzs:=[89,90,91] }) (GOk.look (l:=[(89,[S89])]) ⟨⟨ok89,trivial⟩,trivial⟩) Tryz.checked.mixed Tryz.func58 (by kernel_rfl) (by kernel_rfl) (by kernel_rfl) (by kernel_rfl) (by kernel_rfl) (by kernel_rfl) (by kernel_rfl)
 fun x y h=>(raw58_eq x).trans h
theorem ok38:FOk Tryz.prog 38 S38:=afun_ok (E:=E38) (fn:=Tryz.f38) (tabOk.opt { flats:=[(93,L93)],owns:=[87],frzs:=[89,90,91] }) (GOk.look (l:=[(58,[S58])]) ⟨⟨ok58,trivial⟩,trivial⟩) Tryz.checked.mixed Tryz.func38 (by kernel_rfl) (by kernel_rfl) (by kernel_rfl) (by kernel_rfl) (by kernel_rfl) (by kernel_rfl) (by kernel_rfl)
 fun x y h=>(raw38_eq x).trans h
theorem ok39:FOk Tryz.prog 39 S39:=afun_ok (E:=E39) (fn:=Tryz.f39) (tabOk.opt { flats:=[(93,L93)],owns:=[87],frzs:=[89,90,91] }) (GOk.look (l:=[]) trivial) Tryz.checked.mixed Tryz.func39 (by kernel_rfl) (by kernel_rfl) (by kernel_rfl) (by kernel_rfl) (by kernel_rfl) (by kernel_rfl) (by kernel_rfl)
 fun x y h=>(raw39_eq x).trans h
theorem ok19:FOk Tryz.prog 19 S19:=afun_ok (E:=E19) (fn:=Tryz.f19) (tabOk.opt { flats:=[(93,L93)],owns:=[87],frzs:=[89,90,91] }) (GOk.look (l:=[(38,[S38]),(39,[S39])]) ⟨⟨ok38,trivial⟩,⟨ok39,trivial⟩,trivial⟩) Tryz.checked.mixed Tryz.func19 (by kernel_rfl) (by kernel_rfl) (by kernel_rfl) (by kernel_rfl) (by kernel_rfl) (by kernel_rfl) (by kernel_rfl)
 fun x y h=>(raw19_eq x).trans h
theorem ok6:FOk Tryz.prog 6 S6:=afun_ok (E:=E6) (fn:=Tryz.f6) (tabOk.opt { flats:=[(93,L93)],owns:=[87],frzs:=[89,90,91] }) (GOk.look (l:=[(19,[S19])]) ⟨⟨ok19,trivial⟩,trivial⟩) Tryz.checked.mixed Tryz.func6 (by kernel_rfl) (by kernel_rfl) (by kernel_rfl) (by kernel_rfl) (by kernel_rfl) (by kernel_rfl) (by kernel_rfl)
 fun x y h=>(raw6_eq x).trans h
theorem ok8:FOk Tryz.prog 8 S8:=afun_ok (E:=E8) (fn:=Tryz.f8) (tabOk.opt { flats:=[(93,L93)],owns:=[87],frzs:=[89,90,91] }) (GOk.look (l:=[]) trivial) Tryz.checked.mixed Tryz.func8 (by kernel_rfl) (by kernel_rfl) (by kernel_rfl) (by kernel_rfl) (by kernel_rfl) (by kernel_rfl) (by kernel_rfl)
 fun x y h=>(raw8_eq x).trans h
theorem ok50:FOk Tryz.prog 50 S50:=afun_ok (E:=E50) (fn:=Tryz.f50) (tabOk.opt { flats:=[(93,L93)],owns:=[87],frzs:=[89,90,91] }) (GOk.look (l:=[]) trivial) Tryz.checked.mixed Tryz.func50 (by kernel_rfl) (by kernel_rfl) (by kernel_rfl) (by kernel_rfl) (by kernel_rfl) (by kernel_rfl) (by kernel_rfl)
 fun x y h=>(raw50_eq x).trans h
theorem ok26:FOk Tryz.prog 26 S26:=afun_ok (E:=E26) (fn:=Tryz.f26) (tabOk.opt { flats:=[(93,L93)],owns:=[87],frzs:=[89,90,91] }) (GOk.look (l:=[(50,[S50])]) ⟨⟨ok50,trivial⟩,trivial⟩) Tryz.checked.mixed Tryz.func26 (by kernel_rfl) (by kernel_rfl) (by kernel_rfl) (by kernel_rfl) (by kernel_rfl) (by kernel_rfl) (by kernel_rfl)
 fun x y h=>(raw26_eq x).trans h
theorem ok51:FOk Tryz.prog 51 S51:=afun_ok (E:=E51) (fn:=Tryz.f51) (tabOk.opt { flats:=[(93,L93)],owns:=[87],frzs:=[89,90,91] }) (GOk.look (l:=[]) trivial) Tryz.checked.mixed Tryz.func51 (by kernel_rfl) (by kernel_rfl) (by kernel_rfl) (by kernel_rfl) (by kernel_rfl) (by kernel_rfl) (by kernel_rfl)
 fun x y h=>(raw51_eq x).trans h
theorem ok52:FOk Tryz.prog 52 S52:=afun_ok (E:=E52) (fn:=Tryz.f52) (tabOk.opt { flats:=[(93,L93)],owns:=[87],frzs:=[89,90,91] }) (GOk.look (l:=[(38,[S38])]) ⟨⟨ok38,trivial⟩,trivial⟩) Tryz.checked.mixed Tryz.func52 (by kernel_rfl) (by kernel_rfl) (by kernel_rfl) (by kernel_rfl) (by kernel_rfl) (by kernel_rfl) (by kernel_rfl)
 fun x y h=>(raw52_eq x).trans h
theorem ok27:FOk Tryz.prog 27 S27:=afun_ok (E:=E27) (fn:=Tryz.f27) (tabOk.opt { flats:=[(93,L93)],owns:=[87],frzs:=[89,90,91] }) (GOk.look (l:=[(51,[S51]),(52,[S52])]) ⟨⟨ok51,trivial⟩,⟨ok52,trivial⟩,trivial⟩) Tryz.checked.mixed Tryz.func27 (by kernel_rfl) (by kernel_rfl) (by kernel_rfl) (by kernel_rfl) (by kernel_rfl) (by kernel_rfl) (by kernel_rfl)
 fun x y h=>(raw27_eq x).trans h
theorem ok182:FOk Tryz.prog 182 S182:=afun_ok (E:=E182) (fn:=Tryz.f182) (tabOk.opt { flats:=[(93,L93)],owns:=[87],frzs:=[89,90,91] }) (GOk.look (l:=[]) trivial) Tryz.checked.mixed Tryz.func182 (by kernel_rfl) (by kernel_rfl) (by kernel_rfl) (by kernel_rfl) (by kernel_rfl) (by kernel_rfl) (by kernel_rfl)
 fun x y h=>(raw182_eq x).trans h
theorem ok154:FOk Tryz.prog 154 S154:=afun_ok (E:=E154) (fn:=Tryz.f154) (tabOk.opt { flats:=[(93,L93)],owns:=[87],frzs:=[89,90,91] }) (GOk.look (l:=[(182,[S182])]) ⟨⟨ok182,trivial⟩,trivial⟩) Tryz.checked.mixed Tryz.func154 (by kernel_rfl) (by kernel_rfl) (by kernel_rfl) (by kernel_rfl) (by kernel_rfl) (by kernel_rfl) (by kernel_rfl)
 fun x y h=>(raw154_eq x).trans h
theorem ok155:FOk Tryz.prog 155 S155:=afun_ok (E:=E155) (fn:=Tryz.f155) (tabOk.opt { flats:=[(93,L93)],owns:=[87],frzs:=[89,90,91] }) (GOk.look (l:=[]) trivial) Tryz.checked.mixed Tryz.func155 (by kernel_rfl) (by kernel_rfl) (by kernel_rfl) (by kernel_rfl) (by kernel_rfl) (by kernel_rfl) (by kernel_rfl)
 fun x y h=>(raw155_eq x).trans h
theorem ok115:FOk Tryz.prog 115 S115:=afun_ok (E:=E115) (fn:=Tryz.f115) (tabOk.opt { flats:=[(93,L93)],owns:=[87],frzs:=[89,90,91] }) (GOk.look (l:=[(154,[S154]),(155,[S155])]) ⟨⟨ok154,trivial⟩,⟨ok155,trivial⟩,trivial⟩) Tryz.checked.mixed Tryz.func115 (by kernel_rfl) (by kernel_rfl) (by kernel_rfl) (by kernel_rfl) (by kernel_rfl) (by kernel_rfl) (by kernel_rfl)
 fun x y h=>(raw115_eq x).trans h
theorem ok119:FOk Tryz.prog 119 S119:=afun_ok (E:=E119) (fn:=Tryz.f119) (tabOk.opt { flats:=[(93,L93)],owns:=[87],frzs:=[89,90,91] }) (GOk.look (l:=[]) trivial) Tryz.checked.mixed Tryz.func119 (by kernel_rfl) (by kernel_rfl) (by kernel_rfl) (by kernel_rfl) (by kernel_rfl) (by kernel_rfl) (by kernel_rfl)
 fun x y h=>(raw119_eq x).trans h
theorem ok156:FOk Tryz.prog 156 S156:=afun_ok (E:=E156) (fn:=Tryz.f156) (tabOk.opt { flats:=[(93,L93)],owns:=[87],frzs:=[89,90,91] }) (GOk.look (l:=[]) trivial) Tryz.checked.mixed Tryz.func156 (by kernel_rfl) (by kernel_rfl) (by kernel_rfl) (by kernel_rfl) (by kernel_rfl) (by kernel_rfl) (by kernel_rfl)
 fun x y h=>(raw156_eq x).trans h
theorem ok157:FOk Tryz.prog 157 S157:=afun_ok (E:=E157) (fn:=Tryz.f157) (tabOk.opt { flats:=[(93,L93)],owns:=[87],frzs:=[89,90,91] }) (GOk.look (l:=[]) trivial) Tryz.checked.mixed Tryz.func157 (by kernel_rfl) (by kernel_rfl) (by kernel_rfl) (by kernel_rfl) (by kernel_rfl) (by kernel_rfl) (by kernel_rfl)
 fun x y h=>(raw157_eq x).trans h
theorem ok117:FOk Tryz.prog 117 S117:=afun_ok (E:=E117) (fn:=Tryz.f117) (tabOk.opt { flats:=[(93,L93)],owns:=[87],frzs:=[89,90,91] }) (GOk.look (l:=[(119,[S119])]) ⟨⟨ok119,trivial⟩,trivial⟩) Tryz.checked.mixed Tryz.func117 (by kernel_rfl) (by kernel_rfl) (by kernel_rfl) (by kernel_rfl) (by kernel_rfl) (by kernel_rfl) (by kernel_rfl)
 fun x y h=>(raw117_eq x).trans h
theorem ok158:FOk Tryz.prog 158 S158:=afun_ok (E:=E158) (fn:=Tryz.f158) (tabOk.opt { flats:=[(93,L93)],owns:=[87],frzs:=[89,90,91] }) (GOk.look (l:=[(117,[S117])]) ⟨⟨ok117,trivial⟩,trivial⟩) Tryz.checked.mixed Tryz.func158 (by kernel_rfl) (by kernel_rfl) (by kernel_rfl) (by kernel_rfl) (by kernel_rfl) (by kernel_rfl) (by kernel_rfl)
 fun x y h=>(raw158_eq x).trans h
theorem ok159:FOk Tryz.prog 159 S159:=afun_ok (E:=E159) (fn:=Tryz.f159) (tabOk.opt { flats:=[(93,L93)],owns:=[87],frzs:=[89,90,91] }) (GOk.look (l:=[]) trivial) Tryz.checked.mixed Tryz.func159 (by kernel_rfl) (by kernel_rfl) (by kernel_rfl) (by kernel_rfl) (by kernel_rfl) (by kernel_rfl) (by kernel_rfl)
 fun x y h=>(raw159_eq x).trans h
theorem ok116:FOk Tryz.prog 116 S116:=afun_ok (E:=E116) (fn:=Tryz.f116) (tabOk.opt { flats:=[(93,L93)],owns:=[87],frzs:=[89,90,91] }) (GOk.look (l:=[(119,[S119]),(156,[S156]),(157,[S157]),(158,[S158]),(159,[S159])]) ⟨⟨ok119,trivial⟩,⟨ok156,trivial⟩,⟨ok157,trivial⟩,⟨ok158,trivial⟩,⟨ok159,trivial⟩,trivial⟩) Tryz.checked.mixed Tryz.func116 (by kernel_rfl) (by kernel_rfl) (by kernel_rfl) (by kernel_rfl) (by kernel_rfl) (by kernel_rfl) (by kernel_rfl)
 fun x y h=>(raw116_eq x).trans h
theorem ok118:FOk Tryz.prog 118 S118:=afun_ok (E:=E118) (fn:=Tryz.f118) (tabOk.opt { flats:=[(93,L93)],owns:=[87],frzs:=[89,90,91] }) (GOk.look (l:=[(119,[S119])]) ⟨⟨ok119,trivial⟩,trivial⟩) Tryz.checked.mixed Tryz.func118 (by kernel_rfl) (by kernel_rfl) (by kernel_rfl) (by kernel_rfl) (by kernel_rfl) (by kernel_rfl) (by kernel_rfl)
 fun x y h=>(raw118_eq x).trans h
theorem ok120:FOk Tryz.prog 120 S120:=afun_ok (E:=E120) (fn:=Tryz.f120) (tabOk.opt { flats:=[(93,L93)],owns:=[87],frzs:=[89,90,91] }) (GOk.look (l:=[(158,[S158]),(159,[S159])]) ⟨⟨ok158,trivial⟩,⟨ok159,trivial⟩,trivial⟩) Tryz.checked.mixed Tryz.func120 (by kernel_rfl) (by kernel_rfl) (by kernel_rfl) (by kernel_rfl) (by kernel_rfl) (by kernel_rfl) (by kernel_rfl)
 fun x y h=>(raw120_eq x).trans h
theorem ok77:FOk Tryz.prog 77 S77:=afun_ok (E:=E77) (fn:=Tryz.f77) (tabOk.opt { flats:=[(93,L93)],owns:=[87],frzs:=[89,90,91] }) (GOk.look (l:=[(115,[S115]),(116,[S116]),(117,[S117]),(118,[S118]),(119,[S119]),(120,[S120])]) ⟨⟨ok115,trivial⟩,⟨ok116,trivial⟩,⟨ok117,trivial⟩,⟨ok118,trivial⟩,⟨ok119,trivial⟩,⟨ok120,trivial⟩,trivial⟩) Tryz.checked.mixed Tryz.func77 (by kernel_rfl) (by kernel_rfl) (by kernel_rfl) (by kernel_rfl) (by kernel_rfl) (by kernel_rfl) (by kernel_rfl)
 fun x y h=>(raw77_eq x).trans h
theorem ok78:FOk Tryz.prog 78 S78:=afun_ok (E:=E78) (fn:=Tryz.f78) (tabOk.opt { flats:=[(93,L93)],owns:=[87],frzs:=[89,90,91] }) (GOk.look (l:=[]) trivial) Tryz.checked.mixed Tryz.func78 (by kernel_rfl) (by kernel_rfl) (by kernel_rfl) (by kernel_rfl) (by kernel_rfl) (by kernel_rfl) (by kernel_rfl)
 fun x y h=>(raw78_eq x).trans h
theorem ok121:FOk Tryz.prog 121 S121:=afun_ok (E:=E121) (fn:=Tryz.f121) (tabOk.opt { flats:=[(93,L93)],owns:=[87],frzs:=[89,90,91] }) (GOk.look (l:=[]) trivial) Tryz.checked.mixed Tryz.func121 (by kernel_rfl) (by kernel_rfl) (by kernel_rfl) (by kernel_rfl) (by kernel_rfl) (by kernel_rfl) (by kernel_rfl)
 fun x y h=>(raw121_eq x).trans h
theorem ok122:FOk Tryz.prog 122 S122:=afun_ok (E:=E122) (fn:=Tryz.f122) (tabOk.opt { flats:=[(93,L93)],owns:=[87],frzs:=[89,90,91] }) (GOk.look (l:=[]) trivial) Tryz.checked.mixed Tryz.func122 (by kernel_rfl) (by kernel_rfl) (by kernel_rfl) (by kernel_rfl) (by kernel_rfl) (by kernel_rfl) (by kernel_rfl)
 fun x y h=>hand122 x y h
theorem ok161:FOk Tryz.prog 161 S161:=afun_ok (E:=E161) (fn:=Tryz.f161) (tabOk.opt { flats:=[(93,L93)],owns:=[87],frzs:=[89,90,91] }) (GOk.look (l:=[]) trivial) Tryz.checked.mixed Tryz.func161 (by kernel_rfl) (by kernel_rfl) (by kernel_rfl) (by kernel_rfl) (by kernel_rfl) (by kernel_rfl) (by kernel_rfl)
 fun x y h=>(raw161_eq x).trans h
theorem ok160:FOk Tryz.prog 160 S160:=afun_ok (E:=E160) (fn:=Tryz.f160) (tabOk.opt { flats:=[(93,L93)],owns:=[87],frzs:=[89,90,91] }) (GOk.look (l:=[(161,[S161])]) ⟨⟨ok161,trivial⟩,trivial⟩) Tryz.checked.mixed Tryz.func160 (by kernel_rfl) (by kernel_rfl) (by kernel_rfl) (by kernel_rfl) (by kernel_rfl) (by kernel_rfl) (by kernel_rfl)
 fun x y h=>(raw160_eq x).trans h
theorem ok123:FOk Tryz.prog 123 S123:=afun_ok (E:=E123) (fn:=Tryz.f123) (tabOk.opt { flats:=[(93,L93)],owns:=[87],frzs:=[89,90,91] }) (GOk.look (l:=[(160,[S160])]) ⟨⟨ok160,trivial⟩,trivial⟩) Tryz.checked.mixed Tryz.func123 (by kernel_rfl) (by kernel_rfl) (by kernel_rfl) (by kernel_rfl) (by kernel_rfl) (by kernel_rfl) (by kernel_rfl)
 fun x y h=>(raw123_eq x).trans h
theorem ok124:FOk Tryz.prog 124 S124:=afun_ok (E:=E124) (fn:=Tryz.f124) (tabOk.opt { flats:=[(93,L93)],owns:=[87],frzs:=[89,90,91] }) (GOk.look (l:=[(161,[S161])]) ⟨⟨ok161,trivial⟩,trivial⟩) Tryz.checked.mixed Tryz.func124 (by kernel_rfl) (by kernel_rfl) (by kernel_rfl) (by kernel_rfl) (by kernel_rfl) (by kernel_rfl) (by kernel_rfl)
 fun x y h=>(raw124_eq x).trans h
theorem ok79:FOk Tryz.prog 79 S79:=afun_ok (E:=E79) (fn:=Tryz.f79) (tabOk.opt { flats:=[(93,L93)],owns:=[87],frzs:=[89,90,91] }) (GOk.look (l:=[(121,[S121]),(122,[S122]),(123,[S123]),(124,[S124])]) ⟨⟨ok121,trivial⟩,⟨ok122,trivial⟩,⟨ok123,trivial⟩,⟨ok124,trivial⟩,trivial⟩) Tryz.checked.mixed Tryz.func79 (by kernel_rfl) (by kernel_rfl) (by kernel_rfl) (by kernel_rfl) (by kernel_rfl) (by kernel_rfl) (by kernel_rfl)
 fun x y h=>(raw79_eq x).trans h
theorem ok80:FOk Tryz.prog 80 S80:=afun_ok (E:=E80) (fn:=Tryz.f80) (tabOk.opt { flats:=[(93,L93)],owns:=[87],frzs:=[89,90,91] }) (GOk.look (l:=[]) trivial) Tryz.checked.mixed Tryz.func80 (by kernel_rfl) (by kernel_rfl) (by kernel_rfl) (by kernel_rfl) (by kernel_rfl) (by kernel_rfl) (by kernel_rfl)
 fun x y h=>(raw80_eq x).trans h
theorem ok82:FOk Tryz.prog 82 S82:=afun_ok (E:=E82) (fn:=Tryz.f82) (tabOk.opt { flats:=[(93,L93)],owns:=[87],frzs:=[89,90,91] }) (GOk.look (l:=[(58,[S58]),(89,[S89])]) ⟨⟨ok58,trivial⟩,⟨ok89,trivial⟩,trivial⟩) Tryz.checked.mixed Tryz.func82 (by kernel_rfl) (by kernel_rfl) (by kernel_rfl) (by kernel_rfl) (by kernel_rfl) (by kernel_rfl) (by kernel_rfl)
 fun x y h=>(raw82_eq x).trans h
theorem ok126:FOk Tryz.prog 126 S126:=afun_ok (E:=E126) (fn:=Tryz.f126) (tabOk.opt { flats:=[(93,L93)],owns:=[87],frzs:=[89,90,91] }) (GOk.look (l:=[]) trivial) Tryz.checked.mixed Tryz.func126 (by kernel_rfl) (by kernel_rfl) (by kernel_rfl) (by kernel_rfl) (by kernel_rfl) (by kernel_rfl) (by kernel_rfl)
 fun x y h=>(raw126_eq x).trans h
theorem ok127:FOk Tryz.prog 127 S127:=afun_ok (E:=E127) (fn:=Tryz.f127) (tabOk.opt { flats:=[(93,L93)],owns:=[87],frzs:=[89,90,91] }) (GOk.look (l:=[(126,[S126])]) ⟨⟨ok126,trivial⟩,trivial⟩) Tryz.checked.mixed Tryz.func127 (by kernel_rfl) (by kernel_rfl) (by kernel_rfl) (by kernel_rfl) (by kernel_rfl) (by kernel_rfl) (by kernel_rfl)
 fun x y h=>(raw127_eq x).trans h
theorem ok129:FOk Tryz.prog 129 S129:=afun_ok (E:=E129) (fn:=Tryz.f129) (tabOk.opt { flats:=[(93,L93)],owns:=[87],frzs:=[89,90,91] }) (GOk.look (l:=[(126,[S126])]) ⟨⟨ok126,trivial⟩,trivial⟩) Tryz.checked.mixed Tryz.func129 (by kernel_rfl) (by kernel_rfl) (by kernel_rfl) (by kernel_rfl) (by kernel_rfl) (by kernel_rfl) (by kernel_rfl)
 fun x y h=>(raw129_eq x).trans h
theorem ok128:FOk Tryz.prog 128 S128:=afun_ok (E:=E128) (fn:=Tryz.f128) (tabOk.opt { flats:=[(93,L93)],owns:=[87],frzs:=[89,90,91] }) (GOk.look (l:=[]) trivial) Tryz.checked.mixed Tryz.func128 (by kernel_rfl) (by kernel_rfl) (by kernel_rfl) (by kernel_rfl) (by kernel_rfl) (by kernel_rfl) (by kernel_rfl)
 fun x y h=>(raw128_eq x).trans h
theorem ok83:FOk Tryz.prog 83 S83:=afun_ok (E:=E83) (fn:=Tryz.f83) (tabOk.opt { flats:=[(93,L93)],owns:=[87],frzs:=[89,90,91] }) (GOk.look (l:=[(58,[S58]),(126,[S126]),(128,[S128]),(129,[S129])]) ⟨⟨ok58,trivial⟩,⟨ok126,trivial⟩,⟨ok128,trivial⟩,⟨ok129,trivial⟩,trivial⟩) Tryz.checked.mixed Tryz.func83 (by kernel_rfl) (by kernel_rfl) (by kernel_rfl) (by kernel_rfl) (by kernel_rfl) (by kernel_rfl) (by kernel_rfl)
 fun x y h=>(raw83_eq x).trans h
theorem ok130:FOk Tryz.prog 130 S130:=afun_ok (E:=E130) (fn:=Tryz.f130) (tabOk.opt { flats:=[(93,L93)],owns:=[87],frzs:=[89,90,91] }) (GOk.look (l:=[(83,[S83]),(126,[S126]),(127,[S127])]) ⟨⟨ok83,trivial⟩,⟨ok126,trivial⟩,⟨ok127,trivial⟩,trivial⟩) Tryz.checked.mixed Tryz.func130 (by kernel_rfl) (by kernel_rfl) (by kernel_rfl) (by kernel_rfl) (by kernel_rfl) (by kernel_rfl) (by kernel_rfl)
 fun x y h=>(raw130_eq x).trans h
theorem ok131:FOk Tryz.prog 131 S131:=afun_ok (E:=E131) (fn:=Tryz.f131) (tabOk.opt { flats:=[(93,L93)],owns:=[87],frzs:=[89,90,91] }) (GOk.look (l:=[(126,[S126]),(127,[S127])]) ⟨⟨ok126,trivial⟩,⟨ok127,trivial⟩,trivial⟩) Tryz.checked.mixed Tryz.func131 (by kernel_rfl) (by kernel_rfl) (by kernel_rfl) (by kernel_rfl) (by kernel_rfl) (by kernel_rfl) (by kernel_rfl)
 fun x y h=>(raw131_eq x).trans h
theorem ok162:FOk Tryz.prog 162 S162:=afun_ok (E:=E162) (fn:=Tryz.f162) (tabOk.opt { flats:=[(93,L93)],owns:=[87],frzs:=[89,90,91] }) (GOk.look (l:=[]) trivial) Tryz.checked.mixed Tryz.func162 (by kernel_rfl) (by kernel_rfl) (by kernel_rfl) (by kernel_rfl) (by kernel_rfl) (by kernel_rfl) (by kernel_rfl)
 fun x y h=>hand162 x y h
theorem ok163:FOk Tryz.prog 163 S163:=afun_ok (E:=E163) (fn:=Tryz.f163) (tabOk.opt { flats:=[(93,L93)],owns:=[87],frzs:=[89,90,91] }) (GOk.look (l:=[(58,[S58]),(126,[S126])]) ⟨⟨ok58,trivial⟩,⟨ok126,trivial⟩,trivial⟩) Tryz.checked.mixed Tryz.func163 (by kernel_rfl) (by kernel_rfl) (by kernel_rfl) (by kernel_rfl) (by kernel_rfl) (by kernel_rfl) (by kernel_rfl)
 fun x y h=>(raw163_eq x).trans h
theorem ok183:FOk Tryz.prog 183 S183:=afun_ok (E:=E183) (fn:=Tryz.f183) (tabOk.opt { flats:=[(93,L93)],owns:=[87],frzs:=[89,90,91] }) (GOk.look (l:=[(58,[S58]),(82,[S82]),(129,[S129])]) ⟨⟨ok58,trivial⟩,⟨ok82,trivial⟩,⟨ok129,trivial⟩,trivial⟩) Tryz.checked.mixed Tryz.func183 (by kernel_rfl) (by kernel_rfl) (by kernel_rfl) (by kernel_rfl) (by kernel_rfl) (by kernel_rfl) (by kernel_rfl)
 fun x y h=>(raw183_eq x).trans h
theorem ok190:FOk Tryz.prog 190 S190:=afun_ok (E:=E190) (fn:=Tryz.f190) (tabOk.opt { flats:=[(93,L93)],owns:=[87],frzs:=[89,90,91] }) (GOk.look (l:=[(58,[S58]),(82,[S82])]) ⟨⟨ok58,trivial⟩,⟨ok82,trivial⟩,trivial⟩) Tryz.checked.mixed Tryz.func190 (by kernel_rfl) (by kernel_rfl) (by kernel_rfl) (by kernel_rfl) (by kernel_rfl) (by kernel_rfl) (by kernel_rfl)
 fun x y h=>(raw190_eq x).trans h
theorem ok184:FOk Tryz.prog 184 S184:=afun_ok (E:=E184) (fn:=Tryz.f184) (tabOk.opt { flats:=[(93,L93)],owns:=[87],frzs:=[89,90,91] }) (GOk.look (l:=[(190,[S190])]) ⟨⟨ok190,trivial⟩,trivial⟩) Tryz.checked.mixed Tryz.func184 (by kernel_rfl) (by kernel_rfl) (by kernel_rfl) (by kernel_rfl) (by kernel_rfl) (by kernel_rfl) (by kernel_rfl)
 fun x y h=>(raw184_eq x).trans h
theorem ok164:FOk Tryz.prog 164 S164:=afun_ok (E:=E164) (fn:=Tryz.f164) (tabOk.opt { flats:=[(93,L93)],owns:=[87],frzs:=[89,90,91] }) (GOk.look (l:=[(183,[S183]),(184,[S184])]) ⟨⟨ok183,trivial⟩,⟨ok184,trivial⟩,trivial⟩) Tryz.checked.mixed Tryz.func164 (by kernel_rfl) (by kernel_rfl) (by kernel_rfl) (by kernel_rfl) (by kernel_rfl) (by kernel_rfl) (by kernel_rfl)
 fun x y h=>(raw164_eq x).trans h
theorem ok165:FOk Tryz.prog 165 S165:=afun_ok (E:=E165) (fn:=Tryz.f165) (tabOk.opt { flats:=[(93,L93)],owns:=[87],frzs:=[89,90,91] }) (GOk.look (l:=[(58,[S58]),(128,[S128])]) ⟨⟨ok58,trivial⟩,⟨ok128,trivial⟩,trivial⟩) Tryz.checked.mixed Tryz.func165 (by kernel_rfl) (by kernel_rfl) (by kernel_rfl) (by kernel_rfl) (by kernel_rfl) (by kernel_rfl) (by kernel_rfl)
 fun x y h=>(raw165_eq x).trans h
theorem ok166:FOk Tryz.prog 166 S166:=afun_ok (E:=E166) (fn:=Tryz.f166) (tabOk.opt { flats:=[(93,L93)],owns:=[87],frzs:=[89,90,91] }) (GOk.look (l:=[(58,[S58]),(127,[S127]),(128,[S128])]) ⟨⟨ok58,trivial⟩,⟨ok127,trivial⟩,⟨ok128,trivial⟩,trivial⟩) Tryz.checked.mixed Tryz.func166 (by kernel_rfl) (by kernel_rfl) (by kernel_rfl) (by kernel_rfl) (by kernel_rfl) (by kernel_rfl) (by kernel_rfl)
 fun x y h=>(raw166_eq x).trans h
theorem ok125:FOk Tryz.prog 125 S125:=afun_ok (E:=E125) (fn:=Tryz.f125) (tabOk.opt { flats:=[(93,L93)],owns:=[87],frzs:=[89,90,91] }) (GOk.look (l:=[(38,[S38]),(58,[S58]),(82,[S82]),(126,[S126]),(127,[S127]),(129,[S129]),(130,[S130]),(131,[S131]),(162,[S162]),(163,[S163]),(164,[S164]),(165,[S165]),(166,[S166])]) ⟨⟨ok38,trivial⟩,⟨ok58,trivial⟩,⟨ok82,trivial⟩,⟨ok126,trivial⟩,⟨ok127,trivial⟩,⟨ok129,trivial⟩,⟨ok130,trivial⟩,⟨ok131,trivial⟩,⟨ok162,trivial⟩,⟨ok163,trivial⟩,⟨ok164,trivial⟩,⟨ok165,trivial⟩,⟨ok166,trivial⟩,trivial⟩) Tryz.checked.mixed Tryz.func125 (by kernel_rfl) (by kernel_rfl) (by kernel_rfl) (by kernel_rfl) (by kernel_rfl) (by kernel_rfl) (by kernel_rfl)
 fun x y h=>(raw125_eq x).trans h
theorem ok81:FOk Tryz.prog 81 S81:=afun_ok (E:=E81) (fn:=Tryz.f81) (tabOk.opt { flats:=[(93,L93)],owns:=[87],frzs:=[89,90,91] }) (GOk.look (l:=[(125,[S125]),(126,[S126]),(127,[S127])]) ⟨⟨ok125,trivial⟩,⟨ok126,trivial⟩,⟨ok127,trivial⟩,trivial⟩) Tryz.checked.mixed Tryz.func81 (by kernel_rfl) (by kernel_rfl) (by kernel_rfl) (by kernel_rfl) (by kernel_rfl) (by kernel_rfl) (by kernel_rfl)
 fun x y h=>(raw81_eq x).trans h
theorem ok85:FOk Tryz.prog 85 S85:=afun_ok (E:=E85) (fn:=Tryz.f85) (tabOk.opt { flats:=[(93,L93)],owns:=[87],frzs:=[89,90,91] }) (GOk.look (l:=[(58,[S58]),(128,[S128])]) ⟨⟨ok58,trivial⟩,⟨ok128,trivial⟩,trivial⟩) Tryz.checked.mixed Tryz.func85 (by kernel_rfl) (by kernel_rfl) (by kernel_rfl) (by kernel_rfl) (by kernel_rfl) (by kernel_rfl) (by kernel_rfl)
 fun x y h=>(raw85_eq x).trans h
theorem ok84:FOk Tryz.prog 84 S84:=afun_ok (E:=E84) (fn:=Tryz.f84) (tabOk.opt { flats:=[(93,L93)],owns:=[87],frzs:=[89,90,91] }) (GOk.look (l:=[(80,[S80]),(85,[S85])]) ⟨⟨ok80,trivial⟩,⟨ok85,trivial⟩,trivial⟩) Tryz.checked.mixed Tryz.func84 (by kernel_rfl) (by kernel_rfl) (by kernel_rfl) (by kernel_rfl) (by kernel_rfl) (by kernel_rfl) (by kernel_rfl)
 fun x y h=>(raw84_eq x).trans h
theorem ok86:FOk Tryz.prog 86 S86:=afun_ok (E:=E86) (fn:=Tryz.f86) (tabOk.opt { flats:=[(93,L93)],owns:=[87],frzs:=[89,90,91] }) (GOk.look (l:=[(120,[S120])]) ⟨⟨ok120,trivial⟩,trivial⟩) Tryz.checked.mixed Tryz.func86 (by kernel_rfl) (by kernel_rfl) (by kernel_rfl) (by kernel_rfl) (by kernel_rfl) (by kernel_rfl) (by kernel_rfl)
 fun x y h=>(raw86_eq x).trans h
theorem ok87:FOk Tryz.prog 87 S87:=afun_ok (E:=E87) (fn:=Tryz.f87) (tabOk.opt { flats:=[(93,L93)],owns:=[87],frzs:=[89,90,91] }) (GOk.look (l:=[(127,[S127]),(129,[S129]),(130,[S130]),(131,[S131])]) ⟨⟨ok127,trivial⟩,⟨ok129,trivial⟩,⟨ok130,trivial⟩,⟨ok131,trivial⟩,trivial⟩) Tryz.checked.mixed Tryz.func87 (by kernel_rfl) (by kernel_rfl) (by kernel_rfl) (by kernel_rfl) (by kernel_rfl) (by kernel_rfl) (by kernel_rfl)
 fun x y h=>(raw87_eq x).trans h
theorem ok88:FOk Tryz.prog 88 S88:=afun_ok (E:=E88) (fn:=Tryz.f88) (tabOk.opt { flats:=[(93,L93)],owns:=[87],frzs:=[89,90,91] }) (GOk.look (l:=[(38,[S38]),(58,[S58]),(126,[S126]),(129,[S129])]) ⟨⟨ok38,trivial⟩,⟨ok58,trivial⟩,⟨ok126,trivial⟩,⟨ok129,trivial⟩,trivial⟩) Tryz.checked.mixed Tryz.func88 (by kernel_rfl) (by kernel_rfl) (by kernel_rfl) (by kernel_rfl) (by kernel_rfl) (by kernel_rfl) (by kernel_rfl)
 fun x y h=>(raw88_eq x).trans h
theorem ok53:FOk Tryz.prog 53 S53:=afun_ok (E:=E53) (fn:=Tryz.f53) (tabOk.opt { flats:=[(93,L93)],owns:=[87],frzs:=[89,90,91] }) (GOk.look (l:=[(38,[S38]),(58,[S58]),(77,[S77]),(78,[S78]),(79,[S79]),(80,[S80]),(81,[S81]),(82,[S82]),(83,[S83]),(84,[S84]),(85,[S85]),(86,[S86]),(87,[S87]),(88,[S88])]) ⟨⟨ok38,trivial⟩,⟨ok58,trivial⟩,⟨ok77,trivial⟩,⟨ok78,trivial⟩,⟨ok79,trivial⟩,⟨ok80,trivial⟩,⟨ok81,trivial⟩,⟨ok82,trivial⟩,⟨ok83,trivial⟩,⟨ok84,trivial⟩,⟨ok85,trivial⟩,⟨ok86,trivial⟩,⟨ok87,trivial⟩,⟨ok88,trivial⟩,trivial⟩) Tryz.checked.mixed Tryz.func53 (by kernel_rfl) (by kernel_rfl) (by kernel_rfl) (by kernel_rfl) (by kernel_rfl) (by kernel_rfl) (by kernel_rfl)
 fun x y h=>(raw53_eq x).trans h
theorem ok28:FOk Tryz.prog 28 S28:=afun_ok (E:=E28) (fn:=Tryz.f28) (tabOk.opt { flats:=[(93,L93)],owns:=[87],frzs:=[89,90,91] }) (GOk.look (l:=[(50,[S50]),(53,[S53])]) ⟨⟨ok50,trivial⟩,⟨ok53,trivial⟩,trivial⟩) Tryz.checked.mixed Tryz.func28 (by kernel_rfl) (by kernel_rfl) (by kernel_rfl) (by kernel_rfl) (by kernel_rfl) (by kernel_rfl) (by kernel_rfl)
 fun x y h=>(raw28_eq x).trans h
theorem ok10:FOk Tryz.prog 10 S10:=afun_ok (E:=E10) (fn:=Tryz.f10) (tabOk.opt { flats:=[(93,L93)],owns:=[87],frzs:=[89,90,91] }) (GOk.look (l:=[(26,[S26]),(27,[S27]),(28,[S28])]) ⟨⟨ok26,trivial⟩,⟨ok27,trivial⟩,⟨ok28,trivial⟩,trivial⟩) Tryz.checked.mixed Tryz.func10 (by kernel_rfl) (by kernel_rfl) (by kernel_rfl) (by kernel_rfl) (by kernel_rfl) (by kernel_rfl) (by kernel_rfl)
 fun x y h=>(raw10_eq x).trans h
theorem ok11:FOk Tryz.prog 11 S11:=afun_ok (E:=E11) (fn:=Tryz.f11) (tabOk.opt { flats:=[(93,L93)],owns:=[87],frzs:=[89,90,91] }) (GOk.look (l:=[]) trivial) Tryz.checked.mixed Tryz.func11 (by kernel_rfl) (by kernel_rfl) (by kernel_rfl) (by kernel_rfl) (by kernel_rfl) (by kernel_rfl) (by kernel_rfl)
 fun x y h=>(raw11_eq x).trans h
theorem ok29:FOk Tryz.prog 29 S29:=afun_ok (E:=E29) (fn:=Tryz.f29) (tabOk.opt { flats:=[(93,L93)],owns:=[87],frzs:=[89,90,91] }) (GOk.look (l:=[(47,[S47]),(48,[S48]),(49,[S49])]) ⟨⟨ok47,trivial⟩,⟨ok48,trivial⟩,⟨ok49,trivial⟩,trivial⟩) Tryz.checked.mixed Tryz.func29 (by kernel_rfl) (by kernel_rfl) (by kernel_rfl) (by kernel_rfl) (by kernel_rfl) (by kernel_rfl) (by kernel_rfl)
 fun x y h=>(raw29_eq x).trans h
theorem ok30:FOk Tryz.prog 30 S30:=afun_ok (E:=E30) (fn:=Tryz.f30) (tabOk.opt { flats:=[(93,L93)],owns:=[87],frzs:=[89,90,91] }) (GOk.look (l:=[]) trivial) Tryz.checked.mixed Tryz.func30 (by kernel_rfl) (by kernel_rfl) (by kernel_rfl) (by kernel_rfl) (by kernel_rfl) (by kernel_rfl) (by kernel_rfl)
 fun x y h=>(raw30_eq x).trans h
theorem ok54:FOk Tryz.prog 54 S54:=afun_ok (E:=E54) (fn:=Tryz.f54) (tabOk.opt { flats:=[(93,L93)],owns:=[87],frzs:=[89,90,91] }) (GOk.look (l:=[]) trivial) Tryz.checked.mixed Tryz.func54 (by kernel_rfl) (by kernel_rfl) (by kernel_rfl) (by kernel_rfl) (by kernel_rfl) (by kernel_rfl) (by kernel_rfl)
 fun x y h=>(raw54_eq x).trans h
theorem ok31:FOk Tryz.prog 31 S31:=afun_ok (E:=E31) (fn:=Tryz.f31) (tabOk.opt { flats:=[(93,L93)],owns:=[87],frzs:=[89,90,91] }) (GOk.look (l:=[(54,[S54])]) ⟨⟨ok54,trivial⟩,trivial⟩) Tryz.checked.mixed Tryz.func31 (by kernel_rfl) (by kernel_rfl) (by kernel_rfl) (by kernel_rfl) (by kernel_rfl) (by kernel_rfl) (by kernel_rfl)
 fun x y h=>(raw31_eq x).trans h
theorem ok12:FOk Tryz.prog 12 S12:=afun_ok (E:=E12) (fn:=Tryz.f12) (tabOk.opt { flats:=[(93,L93)],owns:=[87],frzs:=[89,90,91] }) (GOk.look (l:=[(29,[S29]),(30,[S30]),(31,[S31])]) ⟨⟨ok29,trivial⟩,⟨ok30,trivial⟩,⟨ok31,trivial⟩,trivial⟩) Tryz.checked.mixed Tryz.func12 (by kernel_rfl) (by kernel_rfl) (by kernel_rfl) (by kernel_rfl) (by kernel_rfl) (by kernel_rfl) (by kernel_rfl)
 fun x y h=>(raw12_eq x).trans h
theorem ok12a:FOk Tryz.prog 12 S12a:=afun_ok (E:=E12a) (fn:=Tryz.f12) (tabOk.opt { flats:=[(93,L93)],owns:=[87],frzs:=[89,90,91] }) (GOk.look (l:=[(29,[S29]),(30,[S30]),(31,[S31])]) ⟨⟨ok29,trivial⟩,⟨ok30,trivial⟩,⟨ok31,trivial⟩,trivial⟩) Tryz.checked.mixed Tryz.func12 (by kernel_rfl) (by kernel_rfl) (by kernel_rfl) (by kernel_rfl) (by kernel_rfl) (by kernel_rfl) (by kernel_rfl)
 fun x y h=>(raw12a_eq x).trans h
theorem ok32:FOk Tryz.prog 32 S32:=afun_ok (E:=E32) (fn:=Tryz.f32) (tabOk.opt { flats:=[(93,L93)],owns:=[87],frzs:=[89,90,91] }) (GOk.look (l:=[]) trivial) Tryz.checked.mixed Tryz.func32 (by kernel_rfl) (by kernel_rfl) (by kernel_rfl) (by kernel_rfl) (by kernel_rfl) (by kernel_rfl) (by kernel_rfl)
 fun x y h=>(raw32_eq x).trans h
theorem ok13:FOk Tryz.prog 13 S13:=afun_ok (E:=E13) (fn:=Tryz.f13) (tabOk.opt { flats:=[(93,L93)],owns:=[87],frzs:=[89,90,91] }) (GOk.look (l:=[(32,[S32])]) ⟨⟨ok32,trivial⟩,trivial⟩) Tryz.checked.mixed Tryz.func13 (by kernel_rfl) (by kernel_rfl) (by kernel_rfl) (by kernel_rfl) (by kernel_rfl) (by kernel_rfl) (by kernel_rfl)
 fun x y h=>(raw13_eq x).trans h
theorem ok55:FOk Tryz.prog 55 S55:=afun_ok (E:=E55) (fn:=Tryz.f55) (tabOk.opt { flats:=[(93,L93)],owns:=[87],frzs:=[89,90,91] }) (GOk.look (l:=[]) trivial) Tryz.checked.mixed Tryz.func55 (by kernel_rfl) (by kernel_rfl) (by kernel_rfl) (by kernel_rfl) (by kernel_rfl) (by kernel_rfl) (by kernel_rfl)
 fun x y h=>(raw55_eq x).trans h
theorem ok33:FOk Tryz.prog 33 S33:=afun_ok (E:=E33) (fn:=Tryz.f33) (tabOk.opt { flats:=[(93,L93)],owns:=[87],frzs:=[89,90,91] }) (GOk.look (l:=[(53,[S53]),(55,[S55])]) ⟨⟨ok53,trivial⟩,⟨ok55,trivial⟩,trivial⟩) Tryz.checked.mixed Tryz.func33 (by kernel_rfl) (by kernel_rfl) (by kernel_rfl) (by kernel_rfl) (by kernel_rfl) (by kernel_rfl) (by kernel_rfl)
 fun x y h=>(raw33_eq x).trans h
theorem ok34:FOk Tryz.prog 34 S34:=afun_ok (E:=E34) (fn:=Tryz.f34) (tabOk.opt { flats:=[(93,L93)],owns:=[87],frzs:=[89,90,91] }) (GOk.look (l:=[]) trivial) Tryz.checked.mixed Tryz.func34 (by kernel_rfl) (by kernel_rfl) (by kernel_rfl) (by kernel_rfl) (by kernel_rfl) (by kernel_rfl) (by kernel_rfl)
 fun x y h=>(raw34_eq x).trans h
theorem ok56:FOk Tryz.prog 56 S56:=afun_ok (E:=E56) (fn:=Tryz.f56) (tabOk.opt { flats:=[(93,L93)],owns:=[87],frzs:=[89,90,91] }) (GOk.look (l:=[]) trivial) Tryz.checked.mixed Tryz.func56 (by kernel_rfl) (by kernel_rfl) (by kernel_rfl) (by kernel_rfl) (by kernel_rfl) (by kernel_rfl) (by kernel_rfl)
 fun x y h=>(raw56_eq x).trans h
theorem ok35:FOk Tryz.prog 35 S35:=afun_ok (E:=E35) (fn:=Tryz.f35) (tabOk.opt { flats:=[(93,L93)],owns:=[87],frzs:=[89,90,91] }) (GOk.look (l:=[(56,[S56])]) ⟨⟨ok56,trivial⟩,trivial⟩) Tryz.checked.mixed Tryz.func35 (by kernel_rfl) (by kernel_rfl) (by kernel_rfl) (by kernel_rfl) (by kernel_rfl) (by kernel_rfl) (by kernel_rfl)
 fun x y h=>(raw35_eq x).trans h
theorem ok14:FOk Tryz.prog 14 S14:=afun_ok (E:=E14) (fn:=Tryz.f14) (tabOk.opt { flats:=[(93,L93)],owns:=[87],frzs:=[89,90,91] }) (GOk.look (l:=[(33,[S33]),(34,[S34]),(35,[S35])]) ⟨⟨ok33,trivial⟩,⟨ok34,trivial⟩,⟨ok35,trivial⟩,trivial⟩) Tryz.checked.mixed Tryz.func14 (by kernel_rfl) (by kernel_rfl) (by kernel_rfl) (by kernel_rfl) (by kernel_rfl) (by kernel_rfl) (by kernel_rfl)
 fun x y h=>(raw14_eq x).trans h
theorem ok15:FOk Tryz.prog 15 S15:=afun_ok (E:=E15) (fn:=Tryz.f15) (tabOk.opt { flats:=[(93,L93)],owns:=[87],frzs:=[89,90,91] }) (GOk.look (l:=[]) trivial) Tryz.checked.mixed Tryz.func15 (by kernel_rfl) (by kernel_rfl) (by kernel_rfl) (by kernel_rfl) (by kernel_rfl) (by kernel_rfl) (by kernel_rfl)
 fun x y h=>(raw15_eq x).trans h
theorem ok15a:FOk Tryz.prog 15 S15a:=afun_ok (E:=E15a) (fn:=Tryz.f15) (tabOk.opt { flats:=[(93,L93)],owns:=[87],frzs:=[89,90,91] }) (GOk.look (l:=[]) trivial) Tryz.checked.mixed Tryz.func15 (by kernel_rfl) (by kernel_rfl) (by kernel_rfl) (by kernel_rfl) (by kernel_rfl) (by kernel_rfl) (by kernel_rfl)
 fun x y h=>(raw15a_eq x).trans h
theorem ok16:FOk Tryz.prog 16 S16:=afun_ok (E:=E16) (fn:=Tryz.f16) (tabOk.opt { flats:=[(93,L93)],owns:=[87],frzs:=[89,90,91] }) (GOk.look (l:=[]) trivial) Tryz.checked.mixed Tryz.func16 (by kernel_rfl) (by kernel_rfl) (by kernel_rfl) (by kernel_rfl) (by kernel_rfl) (by kernel_rfl) (by kernel_rfl)
 fun x y h=>(raw16_eq x).trans h
theorem ok16a:FOk Tryz.prog 16 S16a:=afun_ok (E:=E16a) (fn:=Tryz.f16) (tabOk.opt { flats:=[(93,L93)],owns:=[87],frzs:=[89,90,91] }) (GOk.look (l:=[]) trivial) Tryz.checked.mixed Tryz.func16 (by kernel_rfl) (by kernel_rfl) (by kernel_rfl) (by kernel_rfl) (by kernel_rfl) (by kernel_rfl) (by kernel_rfl)
 fun x y h=>(raw16a_eq x).trans h
theorem ok17:FOk Tryz.prog 17 S17:=afun_ok (E:=E17) (fn:=Tryz.f17) (tabOk.opt { flats:=[(93,L93)],owns:=[87],frzs:=[89,90,91] }) (GOk.look (l:=[]) trivial) Tryz.checked.mixed Tryz.func17 (by kernel_rfl) (by kernel_rfl) (by kernel_rfl) (by kernel_rfl) (by kernel_rfl) (by kernel_rfl) (by kernel_rfl)
 fun x y h=>(raw17_eq x).trans h
theorem ok17a:FOk Tryz.prog 17 S17a:=afun_ok (E:=E17a) (fn:=Tryz.f17) (tabOk.opt { flats:=[(93,L93)],owns:=[87],frzs:=[89,90,91] }) (GOk.look (l:=[]) trivial) Tryz.checked.mixed Tryz.func17 (by kernel_rfl) (by kernel_rfl) (by kernel_rfl) (by kernel_rfl) (by kernel_rfl) (by kernel_rfl) (by kernel_rfl)
 fun x y h=>(raw17a_eq x).trans h
theorem ok3:FOk Tryz.prog 3 S3:=afun_ok (E:=E3) (fn:=Tryz.f3) (tabOk.opt { flats:=[(93,L93)],owns:=[87],frzs:=[89,90,91] }) (GOk.look (l:=[(4,[S4]),(5,[S5]),(6,[S6]),(7,[S7]),(8,[S8]),(9,[S9,S9a]),(10,[S10]),(11,[S11]),(12,[S12,S12a]),(13,[S13]),(14,[S14]),(15,[S15,S15a]),(16,[S16,S16a]),(17,[S17,S17a])]) ⟨⟨ok4,trivial⟩,⟨ok5,trivial⟩,⟨ok6,trivial⟩,⟨ok7,trivial⟩,⟨ok8,trivial⟩,⟨ok9,ok9a,trivial⟩,⟨ok10,trivial⟩,⟨ok11,trivial⟩,⟨ok12,ok12a,trivial⟩,⟨ok13,trivial⟩,⟨ok14,trivial⟩,⟨ok15,ok15a,trivial⟩,⟨ok16,ok16a,trivial⟩,⟨ok17,ok17a,trivial⟩,trivial⟩) Tryz.checked.mixed Tryz.func3 (by kernel_rfl) (by kernel_rfl) (by kernel_rfl) (by kernel_rfl) (by kernel_rfl) (by kernel_rfl) (by kernel_rfl)
 fun x y h=>(raw3_eq x).trans h
end Go.Proofs.YtpfjaaofpcbejaaGreat
